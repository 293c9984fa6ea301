/- The document's answer for the console at this program: what is asked of a name. The document's answer for the console at this program: a command and itself are the same. -/
import Derived.Test.YtlnonecibpjcoaaGreatDoorPc
import Derived.Test.YtlnonecibpjcoaaGreatDoorPb
set_option linter.unusedSimpArgs false
set_option linter.unnecessarySimpa false
set_option linter.unusedVariables false
set_option linter.unusedSectionVars false
namespace Go.Proofs.YtlnonecibpjcoaaGreatDoor
open Go.RowKit
attribute [local go_sem] Oper.semAt_some

theorem askK_of {x : ByteArray} {k : Nat} (h1 : 1 ≤ k) (h7 : k ≤ 7) (e : rWhatB k = x) : askK x = k := by
  subst e
  obtain rfl | rfl | rfl | rfl | rfl | rfl | rfl : k = 1 ∨ k = 2 ∨ k = 3 ∨ k = 4 ∨ k = 5 ∨ k = 6 ∨ k = 7 := by omega
  all_goals decide
theorem askK_none {x : ByteArray} (h : ∀ j, 1 ≤ j → j < 8 → rWhatB j ≠ x) : askK x = 0 := by
  have h1 : x ≠ wCount := fun e => h 1 (by omega) (by omega) (by rw [e]; rfl)
  have h2 : x ≠ wLeast := fun e => h 2 (by omega) (by omega) (by rw [e]; rfl)
  have h3 : x ≠ wMost := fun e => h 3 (by omega) (by omega) (by rw [e]; rfl)
  have h4 : x ≠ wSum := fun e => h 4 (by omega) (by omega) (by rw [e]; rfl)
  have h5 : x ≠ wMean := fun e => h 5 (by omega) (by omega) (by rw [e]; rfl)
  have h6 : x ≠ wAt := fun e => h 6 (by omega) (by omega) (by rw [e]; rfl)
  have h7 : x ≠ wScan := fun e => h 7 (by omega) (by omega) (by rw [e]; rfl)
  unfold askK
  rw [if_neg h1, if_neg h2, if_neg h3, if_neg h4, if_neg h5, if_neg h6, if_neg h7]
/-- a number is stored into a field of a variable -/
theorem wpList_storeI {ops : Array Oper} {rest : List Oper} {o : Oper} {a : Act} {w : World} {Q : Exit → Act → World → Prop} (hgd : o.guard = none) (t : TypeId) (p x : Operand)
    (ho : o.op = .store t p x) (g i : Nat) (T : TypeId) (old : Array Value) (kd : IntKind) (z : Int) (hp : a.eval p = .pointer (some ⟨g, i, none⟩)) (hx : a.eval x = .int kd z)
    (hg : w.heap[g]? = some (.cells old T (0, 0))) (hi : i < old.size) (hz : ∀ w, (sizeOf t).run Tryz.prog w = .ok 1 w)
    (h : wpList Tryz.prog ops Q rest (a.put o.dst undef) (setRow w g (old.setIfInBounds i (.int kd z)))) : wpList Tryz.prog ops Q (o :: rest) a w := by
  have hrun : (Instr.storeAt t (.pointer (some ⟨g, i, none⟩)) (.int kd z)).run Tryz.prog w = .ok () (w.setCell ⟨g, i, none⟩ (.int kd z)) := by
    obtain ⟨z1, z2, z3⟩ := rcell hg
    have e1 : w.cell? ⟨g, i, none⟩ = some old[i] := by rw [z1]; simp [hi]
    have e2 := z2 i
    simp [Instr.storeAt, Instr.sureAddr, storeVar, hz, storeCells, go_sem, e1, e2]
  refine wpList_plain hgd fun _ hK => ?_
  unfold Oper.wp execOp
  simp only [ho, hp, hx, Sem.run_bind, Sem.run_pure, Result.andThen_ok, hrun]
  rw [setRow_of_setCell hg _ rfl]
  exact hK _ _ h

set_option maxRecDepth 100000 in
set_option maxHeartbeats 8000000 in
theorem ref_Parse_asks (hd nm : ByteArray) (r : List ByteArray) (k0 : Nat) (hk01 : 1 ≤ k0) (hk07 : k0 ≤ 7) (hk : rWhatB k0 = hd) (hb : NoBare hd) (a6 : (hd.toList == ([114, 101, 97, 100] : List UInt8)) = false) (a7 : (hd.toList == ([98, 117, 99, 107, 101, 116, 115] : List UInt8)) = false) (hn : nm.size ≤ 40) (s : ByteArray) (hs : s.size ≤ 1000000) (h : rW s.data.toList ⟨#[]⟩ [] = some (hd :: nm :: r)) (hl : r.length ≤ 1000000) (hz : ∀ x ∈ r, x.size ≤ 1000000) (w : World) :
    Calls Tryz.prog 11 #[.string s] w (RPq (match pInts r with | some xs => rNamed hd nm xs | none => none) w) := by
  have c0 := ref_Words s hs (w.alloc (.cells zCmd 48))
  rw [h] at c0
  obtain ⟨R, hR⟩ : ∃ R : Option Cm, R = (match pInts r with | some xs => rNamed hd nm xs | none => none) := ⟨_, rfl⟩
  rw [← hR]
  have HR := hide hR
  clear hR h
  have f1 := na w zCmd 48
  have hb1 := bA (b0 w) (.cells zCmd 48)
  obtain ⟨a1, a2, a3, a4, a5⟩ := hb
  go_enter Tryz.func11, Tryz.ntmps11
  go_wp2_with fail
  refine c0.mono ?_
  rintro e w2 ⟨v, rfl, hO, hb2⟩
  obtain ⟨A, c, rfl, hr⟩ := hO.cr
  have f2 := kp hb2 f1
  have HB := hide (bB hb1 hb2)
  have hzc := zCmd_size
  have h1 := zCmd_one
  have hcap := hr.cap
  have hin := hr.inV
  rw [strV_len] at hcap
  obtain ⟨ad, rfl, hal, hc⟩ := hr.inV (by simp [strV])
  have q0 := hc 0 (by simp [strV])
  have q1 := hc 1 (by simp [strV])
  simp only [strV, List.map_cons, List.getElem_cons_zero, List.getElem_cons_succ, addr0] at q0 q1
  have q1 : w2.cell? ⟨ad.block, ad.off + 1, none⟩ = some (.string nm) := by simpa [Addr.add] using q1
  rw [strV_len]
  have hin2 := inV_from (j := 2) hcap hin
  have e9 : (hd :: nm :: r).drop 2 = r := rfl
  rw [e9] at hin2
  obtain ⟨A1, hA1⟩ : ∃ A1, A1 = some (if c - 2 = 0 then ad else ad.add 2) := ⟨_, rfl⟩
  obtain ⟨c1, hc1⟩ : ∃ c1, c1 = c - 2 := ⟨_, rfl⟩
  rw [← hA1] at hin2
  have HA1 := hide hA1
  have HC1 := hide hc1
  clear hA1 hc1
  have e0 : (hd :: nm :: r).length = r.length + 2 := rfl
  rw [e0] at hcap ⊢
  have e2 : decide ((r.length : Int) + 2 < 2) = false := decide_eq_false (by omega)
  have e3 : decide ((40 : Int) < (nm.size : Int)) = false := decide_eq_false (by omega)
  have cN := ref_numbers A1 c1 r hl hz w2 hin2
  clear c0 hb1 hO hc hr hz e0 hin hin2
  go_wp2_with (refine wpList_sliceFrom rfl _ _ rfl ad (r.length + 2) c 2 rfl rfl (by omega) hcap A1 r.length c1 HA1.out rfl HC1.out ?_; simp only [Act.put, List.setIfInBounds_toArray, List.set_cons_zero, List.set_cons_succ])
  refine cN.mono ?_
  rintro e w3 hp3
  have hB := HB.out
  cases hp : pInts r with
  | none =>
    rw [hp] at hp3
    obtain ⟨rfl, hb3⟩ := hp3
    have f3 := kp hb3 f2
    have HB3 := hide (bB hB hb3)
    have HN : Hid (R = none) := hide (by rw [HR.out, hp])
    clear hp hB hb3 f2 cN q0 q1
    go_wp2_with (first | (refine wpList_buildW rfl _ _ rfl (.agg zCmd) #[] (by simp [Act.eval]) (build48_0 _) ?_; simp only [Act.put, List.setIfInBounds_toArray, List.set_cons_zero, List.set_cons_succ]) | (refine wpList_storeW rfl _ _ _ rfl w.heap.size 48 _ zCmd rfl rfl f3 (by rw [size48, hzc]) rfl h1 ?_; simp only [Act.put]))
    exact rq_no rfl rfl f3 zCmd_size HB3.out HN.out
  | some xs =>
    rw [hp] at hp3
    obtain ⟨v3, rfl, hO3, hb3⟩ := hp3
    have f3 := kp hb3 f2
    have HB3 := hide (bB hB hb3)
    obtain ⟨A3, c3, rfl, hr3⟩ := hO3.cr
    have HI3 := hide hr3.inV
    have HN : Hid (R = rNamed hd nm xs) := hide (by rw [HR.out, hp])
    rw [intV_len]
    clear hp hB hb3 f2 cN q0 q1 hO3 hr3 hal HR HB HA1 HC1 hcap a1 a2 a3 a4 a5 a6 a7 e2 e3
    have hK0 := askK_of hk01 hk07 hk
    have HK0 := hide hk
    unfold rNamed at HN
    rw [hK0, if_pos (by omega)] at HN
    clear hk
    go_wp2_with fail
    go_loopw [22] (fun v22 wr => ∃ (k : Nat), v22 = .int .i64 (k : Int) ∧ 1 ≤ k ∧ k ≤ k0 ∧ Hid (Below w3.heap.size w3 wr)) (fun v22 _ => 8 - (intOf v22).toNat)
    case atStart => exact ⟨1, rfl, by omega, by omega, hide (b0 _)⟩
    case round =>
      obtain ⟨k, rfl, hk1, hkk, HBr⟩ := hrel
      have e1 : decide ((k : Int) ≤ 7) = true := decide_eq_true (by omega)
      have cW := fun W => ref_What k (by omega) W
      rcases Nat.lt_or_ge k k0 with hlt | hge
      · have hx : rWhatB k ≠ hd := fun e => by
          have h := askK_of hk1 (by omega) e
          omega
        have ex := eqF hx
        generalize rWhatB k = K at *
        clear hx
        go_wp2_with fail
        refine (cW _).mono ?_
        rintro e w5 ⟨rfl, hb5⟩
        have HB5 := hide (bB HBr.out hb5)
        go_wp2_with fail
        go_roundw
        case rel => exact ⟨k + 1, by go_num, by omega, by omega, HB5⟩
        case measure => simp [intOf]; omega
      · obtain rfl : k = k0 := by omega
        have ex := eqT HK0.out
        clear hge HK0
        generalize rWhatB k = K at *
        have f4 := kp HBr.out f3
        go_wp2_with fail
        refine (cW _).mono ?_
        rintro e w5 ⟨rfl, hb5⟩
        have HB5 := hide (bB HBr.out hb5)
        have fB := kp hb5 f4
        obtain ⟨q, hq⟩ : ∃ q, q = w5.heap.size := ⟨_, rfl⟩
        have hqw : w.heap.size < q := by rw [hq]; exact (rcell fB).2.2
        have Hq := hide hq
        have hBw := hide (bB HB3.out HB5.out)
        have HI5 := hide (HI3.out.below HB5.out)
        clear HBr hb5 f4 cW f3 HI3 hK0 hq
        have HY0 := fun (a b : Int) => hide (show ∃ O Y : Array Value, (∀ W, (Instr.build 29 #[(0, .int .i64 5), (2, .agg #[.int .i64 (k : Int), .string nm, .int .i64 a, .int .i64 b, .int .i64 0, .int .i64 0])]).run Tryz.prog W = .ok (.agg O) W) ∧ (∀ W, (Instr.build 48 #[(0, .int .i64 1), (1, .agg O)]).run Tryz.prog W = .ok (.agg Y) W) ∧ Y.size = 19 ∧ Y.all (·.oneCell') = true ∧ (∀ W, CmdIs w.heap.size W (.agg Y) { ok := 5, qk := (k : Int), qn := nm, qa := a, qb := b }) from
          ⟨_, _, fun W => build29_q (k : Int) nm a b 0 0 W, fun W => build48_op ⟨5, 0, ⟨#[]⟩, 0, 0, 0, none, 0, 0, (k : Int), nm, a, b, 0, 0, ⟨#[]⟩, 0, 0⟩ W, rfl, cmd_one _ _ _ _ _ _, fun W => ⟨none, 0, none, 0, rfl, RS.nil _, RS.nil _⟩⟩)
        by_cases h6 : k = 6
        · subst h6
          rw [if_pos rfl] at HN
          by_cases hx1 : xs.length = 1
          · match xs, hx1 with
            | [a], _ =>
              have HN2 : Hid (R = some { ok := 5, qk := ((6 : Nat) : Int), qn := nm, qa := a, qb := 0 }) := hide (by rw [HN.out]; rfl)
              obtain ⟨ad3, rfl, hal3, hc3⟩ := HI5.out (by simp [intV])
              have p0 := hc3 0 (by simp [intV])
              simp only [intV, List.map_cons, List.getElem_cons_zero, addr0] at p0
              obtain ⟨O, Y, bO, bY, hYs, hY1, hC⟩ := (HY0 a 0).out
              have HC := hide hC
              simp only [List.length_cons, List.length_nil]
              clear hc3 HI5 HN HY0 hC
              go_wp2_with (first
                | (refine wpList_storeW rfl _ _ _ rfl w5.heap.size 26 _ #[.int .i64 ((6 : Nat) : Int), .string nm, .int .i64 0, .int .i64 0, .int .i64 0, .int .i64 0] rfl rfl (na _ _ _) size26 rfl (by simp [Value.oneCell']) ?_; simp only [Act.put]; generalize hT6 : setRow _ _ _ = w6; obtain ⟨hx6, g6⟩ := fin_x (b0 _) (na w5 _ 26) hT6; have f6 := kx hx6 (kp (bA (b0 _) _) fB) (by have := Hq.out; omega); have HB6 := hide (bX (bA (b0 w5) _) hx6 (Nat.le_refl _)); rw [← Hq.out] at g6 ⊢; have p0 := (HB6.out.cell (p := ad3) hal3).trans p0; clear hT6 hx6)
                | (refine wpList_storeI rfl 2 _ _ rfl q 2 26 _ .i64 a rfl rfl g6 (by simp) (fun w => Tryz.sizeOf2 w) ?_; generalize hT7 : setRow _ _ _ = w7; obtain ⟨hx7, g7⟩ := fin_x (b0 _) g6 hT7; simp only [List.setIfInBounds_toArray, List.set_cons_zero, List.set_cons_succ] at g7; have f7 := kx hx7 f6 (by omega); have HB7 := hide (bX HB6.out hx7 (by have := Hq.out; omega)); clear hT7 hx7)
                | (refine wpList_loadW rfl _ _ rfl q 26 #[.int .i64 ((6 : Nat) : Int), .string nm, .int .i64 a, .int .i64 0, .int .i64 0, .int .i64 0] rfl g7 _ rfl Tryz.underlying26 size26 ?_; simp only [Act.put, List.setIfInBounds_toArray, List.set_cons_zero, List.set_cons_succ])
                | (refine wpList_buildW rfl _ _ rfl (.agg O) #[(0, .int .i64 5), (2, .agg #[.int .i64 ((6 : Nat) : Int), .string nm, .int .i64 a, .int .i64 0, .int .i64 0, .int .i64 0])] (by simp [Act.eval]) (bO _) ?_; simp only [Act.put, List.setIfInBounds_toArray, List.set_cons_zero, List.set_cons_succ]) | (refine wpList_buildW rfl _ _ rfl (.agg Y) #[(0, .int .i64 1), (1, .agg O)] (by simp [Act.eval]) (bY _) ?_; simp only [Act.put, List.setIfInBounds_toArray, List.set_cons_zero, List.set_cons_succ]) | (refine wpList_storeW rfl _ _ _ rfl w.heap.size 48 _ Y rfl rfl f7 (by rw [size48, hYs]) (by rw [hYs]; rfl) hY1 ?_; simp only [Act.put]))
              exact rq_yes rfl rfl f7 hYs (bB hBw.out HB7.out) (HC.out _) HN2.out
          · have HN2 : Hid (R = none) := hide (by
              rw [HN.out]
              match xs, hx1 with
              | [], _ => rfl
              | _ :: _ :: _, _ => rfl)
            have e5 : ((xs.length : Int) != 1) = true := by simp; omega
            have e6 : ((xs.length : Int) == 1) = false := by simp; omega
            have e7 : decide ((xs.length : Int) = 1) = false := decide_eq_false (by omega)
            clear HI5 HN HY0
            go_wp2_with (first
                | (refine wpList_storeW rfl _ _ _ rfl w5.heap.size 26 _ #[.int .i64 ((6 : Nat) : Int), .string nm, .int .i64 0, .int .i64 0, .int .i64 0, .int .i64 0] rfl rfl (na _ _ _) size26 rfl (by simp [Value.oneCell']) ?_; simp only [Act.put]; generalize hT6 : setRow _ _ _ = w6; obtain ⟨hx6, g6⟩ := fin_x (b0 _) (na w5 _ 26) hT6; have f6 := kx hx6 (kp (bA (b0 _) _) fB) (by have := Hq.out; omega); have HB6 := hide (bX (bA (b0 w5) _) hx6 (Nat.le_refl _)); rw [← Hq.out] at g6 ⊢; clear hT6 hx6)
                | (refine wpList_buildW rfl _ _ rfl (.agg zCmd) #[] (by simp [Act.eval]) (build48_0 _) ?_; simp only [Act.put, List.setIfInBounds_toArray, List.set_cons_zero, List.set_cons_succ]) | (refine wpList_storeW rfl _ _ _ rfl w.heap.size 48 _ zCmd rfl rfl f6 (by rw [size48, hzc]) rfl h1 ?_; simp only [Act.put]))
            exact rq_no rfl rfl f6 zCmd_size (bB hBw.out HB6.out) HN2.out
        · have k5 : ((k : Int) != 6) = true := by simp; omega
          have k6 : ((k : Int) == 6) = false := by simp; omega
          have k7 : decide ((k : Int) = 6) = false := decide_eq_false (by omega)
          rw [if_neg h6] at HN
          by_cases hx2 : xs.length = 2
          · match xs, hx2 with
            | [a, b], _ =>
              have HN2 : Hid (R = some { ok := 5, qk := (k : Int), qn := nm, qa := a, qb := b }) := hide (by rw [HN.out])
              obtain ⟨ad3, rfl, hal3, hc3⟩ := HI5.out (by simp [intV])
              have p0 := hc3 0 (by simp [intV])
              have p1 := hc3 1 (by simp [intV])
              simp only [intV, List.map_cons, List.getElem_cons_zero, List.getElem_cons_succ, addr0] at p0 p1
              have p1 : w5.cell? ⟨ad3.block, ad3.off + 1, none⟩ = some (.int .i64 b) := by simpa [Addr.add] using p1
              obtain ⟨O, Y, bO, bY, hYs, hY1, hC⟩ := (HY0 a b).out
              have HC := hide hC
              simp only [List.length_cons, List.length_nil]
              clear hc3 HI5 HN HY0 hC
              go_wp2_with (first
                | (refine wpList_storeW rfl _ _ _ rfl w5.heap.size 26 _ #[.int .i64 (k : Int), .string nm, .int .i64 0, .int .i64 0, .int .i64 0, .int .i64 0] rfl rfl (na _ _ _) size26 rfl (by simp [Value.oneCell']) ?_; simp only [Act.put]; generalize hT6 : setRow _ _ _ = w6; obtain ⟨hx6, g6⟩ := fin_x (b0 _) (na w5 _ 26) hT6; have f6 := kx hx6 (kp (bA (b0 _) _) fB) (by have := Hq.out; omega); have HB6 := hide (bX (bA (b0 w5) _) hx6 (Nat.le_refl _)); rw [← Hq.out] at g6 ⊢; have p0_6 := (HB6.out.cell (p := ad3) hal3).trans p0; clear hT6 hx6)
                | (refine wpList_storeI rfl 2 _ _ rfl q 2 26 _ .i64 a rfl rfl g6 (by simp) (fun w => Tryz.sizeOf2 w) ?_; generalize hT7 : setRow _ _ _ = w7; obtain ⟨hx7, g7⟩ := fin_x (b0 _) g6 hT7; simp only [List.setIfInBounds_toArray, List.set_cons_zero, List.set_cons_succ] at g7; have f7 := kx hx7 f6 (by omega); have HB7 := hide (bX HB6.out hx7 (by have := Hq.out; omega)); have p1_7 := (HB7.out.cell (p := ⟨ad3.block, ad3.off + 1, none⟩) hal3).trans p1; clear hT7 hx7)
                | (refine wpList_storeI rfl 2 _ _ rfl q 3 26 _ .i64 b rfl rfl g7 (by simp) (fun w => Tryz.sizeOf2 w) ?_; generalize hT8 : setRow _ _ _ = w8; obtain ⟨hx8, g8⟩ := fin_x (b0 _) g7 hT8; simp only [List.setIfInBounds_toArray, List.set_cons_zero, List.set_cons_succ] at g8; have f8 := kx hx8 f7 (by omega); have HB8 := hide (bX HB7.out hx8 (by have := Hq.out; omega)); clear hT8 hx8)
                | (refine wpList_loadW rfl _ _ rfl q 26 #[.int .i64 (k : Int), .string nm, .int .i64 a, .int .i64 b, .int .i64 0, .int .i64 0] rfl g8 _ rfl Tryz.underlying26 size26 ?_; simp only [Act.put, List.setIfInBounds_toArray, List.set_cons_zero, List.set_cons_succ])
                | (refine wpList_buildW rfl _ _ rfl (.agg O) #[(0, .int .i64 5), (2, .agg #[.int .i64 (k : Int), .string nm, .int .i64 a, .int .i64 b, .int .i64 0, .int .i64 0])] (by simp [Act.eval]) (bO _) ?_; simp only [Act.put, List.setIfInBounds_toArray, List.set_cons_zero, List.set_cons_succ]) | (refine wpList_buildW rfl _ _ rfl (.agg Y) #[(0, .int .i64 1), (1, .agg O)] (by simp [Act.eval]) (bY _) ?_; simp only [Act.put, List.setIfInBounds_toArray, List.set_cons_zero, List.set_cons_succ]) | (refine wpList_storeW rfl _ _ _ rfl w.heap.size 48 _ Y rfl rfl f8 (by rw [size48, hYs]) (by rw [hYs]; rfl) hY1 ?_; simp only [Act.put]))
              exact rq_yes rfl rfl f8 hYs (bB hBw.out HB8.out) (HC.out _) HN2.out
          · have HN2 : Hid (R = none) := hide (by
              rw [HN.out]
              match xs, hx2 with
              | [], _ => rfl
              | [_], _ => rfl
              | _ :: _ :: _ :: _, _ => rfl)
            have e5 : ((xs.length : Int) != 2) = true := by simp; omega
            have e6 : ((xs.length : Int) == 2) = false := by simp; omega
            have e7 : decide ((xs.length : Int) = 2) = false := decide_eq_false (by omega)
            clear HI5 HN HY0
            go_wp2_with (first
                | (refine wpList_storeW rfl _ _ _ rfl w5.heap.size 26 _ #[.int .i64 (k : Int), .string nm, .int .i64 0, .int .i64 0, .int .i64 0, .int .i64 0] rfl rfl (na _ _ _) size26 rfl (by simp [Value.oneCell']) ?_; simp only [Act.put]; generalize hT6 : setRow _ _ _ = w6; obtain ⟨hx6, g6⟩ := fin_x (b0 _) (na w5 _ 26) hT6; have f6 := kx hx6 (kp (bA (b0 _) _) fB) (by have := Hq.out; omega); have HB6 := hide (bX (bA (b0 w5) _) hx6 (Nat.le_refl _)); rw [← Hq.out] at g6 ⊢; clear hT6 hx6)
                | (refine wpList_buildW rfl _ _ rfl (.agg zCmd) #[] (by simp [Act.eval]) (build48_0 _) ?_; simp only [Act.put, List.setIfInBounds_toArray, List.set_cons_zero, List.set_cons_succ]) | (refine wpList_storeW rfl _ _ _ rfl w.heap.size 48 _ zCmd rfl rfl f6 (by rw [size48, hzc]) rfl h1 ?_; simp only [Act.put]))
            exact rq_no rfl rfl f6 zCmd_size (bB hBw.out HB6.out) HN2.out
end Go.Proofs.YtlnonecibpjcoaaGreatDoor

namespace Go.Proofs.YtlnonecibpjcoaaGreatDoor
open Go.RowKit
attribute [local go_sem] Oper.semAt_some

/-- a load that may come behind a store -/
theorem Abs.step_late {P : Program} {l : List Oper} {C : Abs.Cls} {Q : Act → Abs.St → Prop} {rest : List Nat} {i : Nat} {o : Oper} {a : Act} {s : Abs.St} (ho : l[i]? = some o) (hw : Region.wanted o (yielded l.toArray a.tmps) = true) {v : Value}
    (h1 : ∀ w, C.J w → (execOp a.eval o).run P w = .ok (.value v) w) (h2 : ∀ K : Act → Abs.St → Prop, (∀ a s, Abs.wpOrd P l.toArray C Q rest a s → K a s) → K (a.put o.dst v) s) : Abs.wpOrd P l.toArray C Q (i :: rest) a s :=
  Abs.step_does ho (.inl ⟨v, .inr ⟨hw, .inl h1⟩, h2 _ (fun _ _ h => h)⟩)
theorem late_kp {W w0 : World} {k : Nat} {cs : Array Value} {t : TypeId} (h : (Abs.cls W (fun _ => False)).J w0) (hc : W.heap[k]? = some (.cells cs t (0, 0))) : w0.heap[k]? = some (.cells cs t (0, 0)) :=
  (h.2 k (Array.getElem?_eq_some_iff.1 hc).1 (fun h => h)).trans hc
theorem late_set {W w0 : World} {g : Nat} (h : (Abs.cls W (fun _ => False)).J w0) (hg : W.heap.size ≤ g) (cs : Array Value) : (Abs.cls W (fun _ => False)).J (setRow w0 g cs) :=
  ⟨Nat.le_trans h.1 (setRow_below (Below.refl g w0) (Nat.le_refl _) cs).size, fun k hk _ => (setRow_other cs (by omega)).trans (h.2 k hk (fun h => h))⟩
theorem fin1 {base w0 w1 : World} {g : Nat} {t : TypeId} {cs cs' : Array Value} (hI : Below base.heap.size base w0) (hg : base.heap.size ≤ g) (hF : w0.heap[g]? = some (.cells cs t (0, 0))) (hT : setRow w0 g cs' = w1) :
    Below base.heap.size base w1 ∧ w1.heap[g]? = some (.cells cs' t (0, 0)) := by
  subst hT
  exact ⟨setRow_below hI hg cs', setRow_same hF⟩
theorem exec_storeX {ρ : Operand → Value} {o : Oper} {t : TypeId} {p x : Operand} {g : Nat} {T : TypeId} {old new : Array Value} {w : World} (ho : o.op = .store t p x) (hp : ρ p = .pointer (some ⟨g, 0, none⟩)) (hx : ρ x = .agg new)
    (hg : w.heap[g]? = some (.cells old T (0, 0))) (hi : (Tryz.prog.info? t).map (·.size) = some new.size) (hs : old.size = new.size) (h1 : new.all (·.oneCell') = true) : (execOp ρ o).run Tryz.prog w = .ok .skip (setRow w g new) := by
  unfold execOp
  simp only [ho, hp, hx, Instr.storeAt, Instr.sureAddr, Sem.run_bind, Sem.run_pure, Result.andThen_ok]
  rw [run_storeVar_row w g T t old new hg hi hs h1, setRow_is]
  rfl

theorem ptsV_len : ∀ ps : List (Int × Int), (ptsV ps).length = 2 * ps.length
  | [] => rfl
  | p :: ps => by simp only [ptsV, List.length_cons, ptsV_len ps]; omega
theorem ptsV_get : ∀ (ps : List (Int × Int)) (j : Nat) (h : j < ps.length), (ptsV ps)[2 * j]? = some (.int .i64 ps[j].1) ∧ (ptsV ps)[2 * j + 1]? = some (.int .i64 ps[j].2)
  | [], j, h => by simp at h
  | p :: ps, 0, _ => ⟨rfl, rfl⟩
  | p :: ps, j + 1, h => by
    have ih := ptsV_get ps j (by simpa using h)
    rw [show 2 * (j + 1) = 2 * j + 1 + 1 by omega]
    exact ih
theorem pts_cells {w w0 : World} {ad : Addr} {ps : List (Int × Int)} (h : InV w (some ad) (ptsV ps)) (hb : Below w.heap.size w w0) (j : Nat) (hj : j < ps.length) :
    w0.cell? (ad.add (j * 2)) = some (.int .i64 ps[j].1) ∧ w0.cell? { block := (ad.add (j * 2)).block, off := (ad.add (j * 2)).off + 1 } = some (.int .i64 ps[j].2) := by
  have hl := ptsV_len ps
  obtain ⟨ad', e, -, h2⟩ := (h.below hb) (by omega)
  obtain rfl : ad = ad' := Option.some.inj e
  obtain ⟨g0, g1⟩ := ptsV_get ps j hj
  have q0 := h2 (2 * j) (by omega)
  have q1 := h2 (2 * j + 1) (by omega)
  rw [← List.getElem?_eq_getElem, g0] at q0
  rw [← List.getElem?_eq_getElem, g1] at q1
  have e1 : (ad.add (j * 2)).add 1 = ad.add (j * 2 + 1) := Go.Deep.add_add _ _ _
  rw [Nat.mul_comm 2 j] at q0 q1
  rw [← e1] at q1
  exact ⟨q0, q1⟩
set_option maxRecDepth 100000 in
set_option maxHeartbeats 4000000 in
theorem ref_Same (k o0 o1 : Int) (o2 : ByteArray) (o3 o4 o5 : Int) (o6 : Option Addr) (o7 o8 : Nat) (o9 : Int) (o10 : ByteArray) (o11 o12 o13 o14 : Int) (o15 : ByteArray) (o16 o17 n : Int) (M : Option Addr) (mn mc : Nat) (p6 : Option Addr) (p8 : Nat) (N : Option Addr) (nc : Nat) (ms : List Int) (ps : List (Int × Int)) (hm : ms.length = mn) (hp : ps.length = o7) (hmn : mn ≤ 9223372036854775807) (w : World)
    (hM : InV w M (intV ms)) (hN : InV w N (intV ms)) (hA : InV w o6 (ptsV ps)) (hC : InV w p6 (ptsV ps)) (hp9 : o7 ≤ 9223372036854775807) :
    Calls Tryz.prog 13 #[.agg (cmdCs k ⟨o0, o1, o2, o3, o4, o5, o6, o7, o8, o9, o10, o11, o12, o13, o14, o15, o16, o17⟩ n M mn mc), .agg (cmdCs k ⟨o0, o1, o2, o3, o4, o5, p6, o7, p8, o9, o10, o11, o12, o13, o14, o15, o16, o17⟩ n N mn nc)] w fun e w' => e = .returned (.bool true) ∧ Below w.heap.size w w' := by
  have HM := hide hM
  have HN := hide hN
  have HA := hide hA
  have HC := hide hC
  have h2 := kp (bA (b0 _) (.cells (cmdCs k ⟨o0, o1, o2, o3, o4, o5, p6, o7, p8, o9, o10, o11, o12, o13, o14, o15, o16, o17⟩ n N mn nc) 48)) (na w (cmdCs k ⟨o0, o1, o2, o3, o4, o5, o6, o7, o8, o9, o10, o11, o12, o13, o14, o15, o16, o17⟩ n M mn mc) 48)
  have h3 := na (w.alloc (.cells (cmdCs k ⟨o0, o1, o2, o3, o4, o5, o6, o7, o8, o9, o10, o11, o12, o13, o14, o15, o16, o17⟩ n M mn mc) 48)) (cmdCs k ⟨o0, o1, o2, o3, o4, o5, p6, o7, p8, o9, o10, o11, o12, o13, o14, o15, o16, o17⟩ n N mn nc) 48
  have hsz : (w.alloc (.cells (cmdCs k ⟨o0, o1, o2, o3, o4, o5, o6, o7, o8, o9, o10, o11, o12, o13, o14, o15, o16, o17⟩ n M mn mc) 48)).heap.size = w.heap.size + 1 := by simp
  rw [hsz] at h3
  unfold cmdCs at h2 h3
  have H2 := hide h2
  have H3 := hide h3
  clear hM hN hA hC h2 h3 hsz
  unfold cmdCs
  go_enter Tryz.func13, Tryz.ntmps13
  go_wp2_with fail
  go_loopw [5] (fun v5 wr => ∃ i : Nat, v5 = .int .i64 (i : Int) ∧ i ≤ mn ∧ Below w.heap.size w wr ∧ (wr.heap[w.heap.size]? = some (.cells (cmdCs k ⟨o0, o1, o2, o3, o4, o5, o6, o7, o8, o9, o10, o11, o12, o13, o14, o15, o16, o17⟩ n M mn mc) 48 (0, 0))) ∧ (wr.heap[w.heap.size + 1]? = some (.cells (cmdCs k ⟨o0, o1, o2, o3, o4, o5, p6, o7, p8, o9, o10, o11, o12, o13, o14, o15, o16, o17⟩ n N mn nc) 48 (0, 0)))) (fun v5 _ => mn - (intOf v5).toNat)
  case atStart =>
    exact ⟨0, rfl, by omega, bA (bA (b0 _) _) _, H2.out, H3.out⟩
  case round =>
    obtain ⟨i, rfl, hi, hb, g1, g2⟩ := hrel
    unfold cmdCs at g1 g2
    obtain ⟨z1, z2, z3⟩ := rcell g1
    obtain ⟨y1, y2, y3⟩ := rcell g2
    by_cases hlt : i < mn
    · have e1 : decide ((i : Int) < (mn : Int)) = true := decide_eq_true (by omega)
      obtain ⟨adM, rfl, -, hcM⟩ := HM.out (by rw [intV_len]; omega)
      obtain ⟨adN, rfl, -, hcN⟩ := HN.out (by rw [intV_len]; omega)
      obtain ⟨x, hx⟩ : ∃ x, x = ms[i]'(by omega) := ⟨_, rfl⟩
      have QM : ∀ w0, Below wr.heap.size wr w0 → w0.cell? (adM.add i) = some (.int .i64 x) := fun w0 hI => by
        obtain ⟨ad', e, -, hc⟩ := (HM.out.below (bB hb hI)) (by rw [intV_len]; omega)
        obtain rfl := Option.some.inj e
        have := hc i (by rw [intV_len]; omega)
        rw [this, hx]; simp [intV]
      have QN : ∀ w0, Below wr.heap.size wr w0 → w0.cell? (adN.add i) = some (.int .i64 x) := fun w0 hI => by
        obtain ⟨ad', e, -, hc⟩ := (HN.out.below (bB hb hI)) (by rw [intV_len]; omega)
        obtain rfl := Option.some.inj e
        have := hc i (by rw [intV_len]; omega)
        rw [this, hx]; simp [intV]
      clear hcM hcN hx
      go_wp2_with fail
      refine Abs.wp_region_abs (Abs.cls0 _) [0, 1, 2, 3, 4, 5, 6, 7, 8, 9, 10] (by kernel_rfl) (by kernel_rfl) (Below.refl _ _).drew ?_
      (refine Abs.step_pure rfl rfl (fun K hK => ?_); go_simp; (try go_bits); (first | refine hK _ _ ?_ | (simp only [↓IntWalk.iteOmega]; go_simp; (try go_bits); refine hK _ _ ?_)); clear hK K)
      (refine Abs.step_load (v := ?_) rfl rfl (by kernel_rfl) rfl (fun w0 hI => ?_) (fun K hK => ?_); rotate_left; (· have z0 := (rcell (kp hI (g1))).1; have z1 := (rcell (kp hI (g2))).1; go_simp; rfl); (simp only [Act.put, List.setIfInBounds_toArray, List.set_cons_zero, List.set_cons_succ]; refine hK _ _ ?_; clear hK K))
      (refine Abs.step_pure rfl rfl (fun K hK => ?_); go_simp; (try go_bits); (first | refine hK _ _ ?_ | (simp only [↓IntWalk.iteOmega]; go_simp; (try go_bits); refine hK _ _ ?_)); clear hK K)
      (refine Abs.step_pure rfl rfl (fun K hK => ?_); go_simp; (try go_bits); (first | refine hK _ _ ?_ | (simp only [↓IntWalk.iteOmega]; go_simp; (try go_bits); refine hK _ _ ?_)); clear hK K)
      (refine Abs.step_load (v := ?_) rfl rfl (by kernel_rfl) rfl (fun w0 hI => ?_) (fun K hK => ?_); rotate_left; (· have z0 := QM w0 hI; have z1 := QN w0 hI; go_simp; rfl); (simp only [Act.put, List.setIfInBounds_toArray, List.set_cons_zero, List.set_cons_succ]; refine hK _ _ ?_; clear hK K))
      (refine Abs.step_pure rfl rfl (fun K hK => ?_); go_simp; (try go_bits); (first | refine hK _ _ ?_ | (simp only [↓IntWalk.iteOmega]; go_simp; (try go_bits); refine hK _ _ ?_)); clear hK K)
      (refine Abs.step_load (v := ?_) rfl rfl (by kernel_rfl) rfl (fun w0 hI => ?_) (fun K hK => ?_); rotate_left; (· have z0 := (rcell (kp hI (g1))).1; have z1 := (rcell (kp hI (g2))).1; go_simp; rfl); (simp only [Act.put, List.setIfInBounds_toArray, List.set_cons_zero, List.set_cons_succ]; refine hK _ _ ?_; clear hK K))
      (refine Abs.step_pure rfl rfl (fun K hK => ?_); go_simp; (try go_bits); (first | refine hK _ _ ?_ | (simp only [↓IntWalk.iteOmega]; go_simp; (try go_bits); refine hK _ _ ?_)); clear hK K)
      (refine Abs.step_pure rfl rfl (fun K hK => ?_); go_simp; (try go_bits); (first | refine hK _ _ ?_ | (simp only [↓IntWalk.iteOmega]; go_simp; (try go_bits); refine hK _ _ ?_)); clear hK K)
      (refine Abs.step_load (v := ?_) rfl rfl (by kernel_rfl) rfl (fun w0 hI => ?_) (fun K hK => ?_); rotate_left; (· have z0 := QM w0 hI; have z1 := QN w0 hI; go_simp; rfl); (simp only [Act.put, List.setIfInBounds_toArray, List.set_cons_zero, List.set_cons_succ]; refine hK _ _ ?_; clear hK K))
      (refine Abs.step_pure rfl rfl (fun K hK => ?_); go_simp; (try go_bits); (first | refine hK _ _ ?_ | (simp only [↓IntWalk.iteOmega]; go_simp; (try go_bits); refine hK _ _ ?_)); clear hK K)
      (intro w7 hb7 hx0 hx1 hx2; clear hx0 hx1 hx2; simp only [Abs.T_setF, Abs.T_addA, Abs.T_push, Abs.T_start])
      have hb8 := bB hb hb7
      have g1' := kp hb7 g1
      have g2' := kp hb7 g2
      go_wp2_with fail
      go_roundw
      case rel => exact ⟨i + 1, by go_num, by omega, hb8, by simpa [cmdCs] using g1', by simpa [cmdCs] using g2'⟩
      case measure => simp [intOf]; omega
    · have e1 : decide ((i : Int) < (mn : Int)) = false := decide_eq_false (by omega)
      have HB := hide hb
      clear z1 z2 z3 y1 y2 y3 H2 H3 HM HN hb
      have g1' := g1
      have g2' := g2
      obtain ⟨z1, z2, z3⟩ := rcell g1'
      obtain ⟨y1, y2, y3⟩ := rcell g2'
      go_wp2_with fail
      clear z1 z2 z3 y1 y2 y3 g1' g2'
      refine Abs.wp_region_abs (Abs.cls _ (fun _ => False)) [0, 1, 2, 3, 4, 5, 6, 7, 8, 9] (by kernel_rfl) (by kernel_rfl) (Below.refl _ _).drew ?_
      (refine Abs.step_pure rfl rfl (fun K hK => ?_); go_simp; (try go_bits); (first | refine hK _ _ ?_ | (simp only [↓IntWalk.iteOmega]; go_simp; (try go_bits); refine hK _ _ ?_)); clear hK K)
      (refine Abs.step_pure rfl rfl (fun K hK => ?_); go_simp; (try go_bits); (first | refine hK _ _ ?_ | (simp only [↓IntWalk.iteOmega]; go_simp; (try go_bits); refine hK _ _ ?_)); clear hK K)
      (refine Abs.step_late (v := ?_) rfl rfl (fun w0 hI => ?_) (fun K hK => ?_); rotate_left; (· have z0 := (rcell (late_kp hI (g1))).1; have z1 := (rcell (late_kp hI (g2))).1; go_simp; rfl); (simp only [Act.put, List.setIfInBounds_toArray, List.set_cons_zero, List.set_cons_succ]; refine hK _ _ ?_; clear hK K))
      (refine Abs.step_pure rfl rfl (fun K hK => ?_); go_simp; (try go_bits); (first | refine hK _ _ ?_ | (simp only [↓IntWalk.iteOmega]; go_simp; (try go_bits); refine hK _ _ ?_)); clear hK K)
      (refine Abs.step_pure rfl rfl (fun K hK => ?_); go_simp; (try go_bits); (first | refine hK _ _ ?_ | (simp only [↓IntWalk.iteOmega]; go_simp; (try go_bits); refine hK _ _ ?_)); clear hK K)
      (refine Abs.step_late (v := ?_) rfl rfl (fun w0 hI => ?_) (fun K hK => ?_); rotate_left; (· have z0 := (rcell (late_kp hI (g1))).1; have z1 := (rcell (late_kp hI (g2))).1; go_simp; rfl); (simp only [Act.put, List.setIfInBounds_toArray, List.set_cons_zero, List.set_cons_succ]; refine hK _ _ ?_; clear hK K))
      (refine Abs.step_new (f := fun g => .pointer (some ⟨g, 0, none⟩)) (obj := ?_) rfl rfl rfl rfl (fun w0 => ?_) (fun K hK g_a hv_a hu_a => ?_); rotate_left; (· go_simp; rfl); (simp only [Act.put, List.setIfInBounds_toArray, List.set_cons_zero, List.set_cons_succ]; refine hK _ _ ?_; clear hK K))
      (refine Abs.step_new (f := fun g => .pointer (some ⟨g, 0, none⟩)) (obj := ?_) rfl rfl rfl rfl (fun w0 => ?_) (fun K hK g_b hv_b hu_b => ?_); rotate_left; (· go_simp; rfl); (simp only [Act.put, List.setIfInBounds_toArray, List.set_cons_zero, List.set_cons_succ]; refine hK _ _ ?_; clear hK K))
      have hn : g_b ≠ g_a := fun e => hu_b (Or.inl e)
      (refine Abs.step_store (T := fun w0 => setRow w0 g_a #[.int .i64 o1, .string o2, .int .i64 o3, .int .i64 o4, .int .i64 o5, .slice o6 o7 o8]) rfl rfl rfl (fun w0 hI hF hU => ?_) (fun w0 hI hU hJ => late_set hJ hv_a _) (fun K hK => ?_); (· simp only [Abs.T_setF, Abs.T_addA, Abs.T_push, Abs.T_start]; exact exec_storeX rfl rfl rfl ((hF 6).1.2 rfl) size24 rfl (by simp [Value.oneCell'])); (simp only [Act.put, List.setIfInBounds_toArray, List.set_cons_zero, List.set_cons_succ]; refine hK _ _ ?_; clear hK K))
      (refine Abs.step_store (T := fun w0 => setRow (setRow w0 g_a #[.int .i64 o1, .string o2, .int .i64 o3, .int .i64 o4, .int .i64 o5, .slice o6 o7 o8]) g_b #[.int .i64 o1, .string o2, .int .i64 o3, .int .i64 o4, .int .i64 o5, .slice p6 o7 p8]) rfl rfl rfl (fun w0 hI hF hU => ?_) (fun w0 hI hU hJ => late_set hJ hv_b _) (fun K hK => ?_); (· simp only [Abs.T_setF, Abs.T_addA, Abs.T_push, Abs.T_start]; exact exec_storeX rfl rfl rfl (((setRow_other _ hn).trans ((hF 7).2 rfl))) size24 rfl (by simp [Value.oneCell'])); (simp only [Act.put, List.setIfInBounds_toArray, List.set_cons_zero, List.set_cons_succ]; refine hK _ _ ?_; clear hK K))
      intro w0 hI hF hx1 hx2
      have qa := (hF 6).1.2 rfl
      have qb := (hF 7).2 rfl
      clear hx1 hx2 hF
      simp only [Abs.T_setF, Abs.T_addA, Abs.T_push, Abs.T_start]
      have hv_a' : wr.heap.size ≤ g_a := hv_a
      have hv_b' : wr.heap.size ≤ g_b := hv_b
      generalize hTa : setRow w0 g_a _ = wa
      obtain ⟨hba, fa⟩ := fin1 hI hv_a' qa hTa
      have qb' := (congrArg (fun W : World => W.heap[g_b]?) hTa).symm.trans ((setRow_other _ hn).trans qb)
      generalize hTb : setRow wa g_b _ = w9
      obtain ⟨hb9, fb9⟩ := fin1 hba hv_b' qb' hTb
      have fa9 := (congrArg (fun W : World => W.heap[g_a]?) hTb).symm.trans ((setRow_other _ (Ne.symm hn)).trans fa)
      have HB9 := hide (bB HB.out hb9)
      clear qa qb qb' hTa hTb hba fa hb9 hI hv_a hv_b hv_a' hv_b' hu_a hu_b g1 g2 HB
      obtain ⟨x1, x2, x3⟩ := rcell fa9
      obtain ⟨y1, y2, y3⟩ := rcell fb9
      go_wp2_with fail
      clear x1 x2 x3 y1 y2 y3
      go_loopw [8] (fun v8 wr => ∃ j : Nat, v8 = .int .i64 (j : Int) ∧ j ≤ o7 ∧ Below w9.heap.size w9 wr) (fun v8 _ => o7 - (intOf v8).toNat)
      case atStart => exact ⟨0, rfl, by omega, b0 _⟩
      case round =>
        obtain ⟨j, rfl, hj, hbr⟩ := hrel
        have ga := kp hbr fa9
        have gb := kp hbr fb9
        obtain ⟨x1, x2, x3⟩ := rcell ga
        obtain ⟨y1, y2, y3⟩ := rcell gb
        have HB10 := hide (bB HB9.out hbr)
        by_cases hlt : j < o7
        · have e1 : decide ((j : Int) < (o7 : Int)) = true := decide_eq_true (by omega)
          go_wp2_with fail
          clear x1 x2 x3 y1 y2 y3
          have hjp : j < ps.length := by omega
          obtain ⟨adA, rfl, -, -⟩ := HA.out (by have := ptsV_len ps; omega)
          obtain ⟨adC, rfl, -, -⟩ := HC.out (by have := ptsV_len ps; omega)
          have PM := fun w0 (hI : Below wr.heap.size wr w0) => pts_cells HA.out (bB HB10.out hI) j hjp
          have PN := fun w0 (hI : Below wr.heap.size wr w0) => pts_cells HC.out (bB HB10.out hI) j hjp
          generalize ps[j] = pj at PM PN
          clear hjp
          refine Abs.wp_region_abs (Abs.cls0 _) [0, 1, 2, 3, 4, 5, 6, 7, 8, 9, 10] (by kernel_rfl) (by kernel_rfl) (Below.refl _ _).drew ?_
          (refine Abs.step_pure rfl rfl (fun K hK => ?_); go_simp; (try go_bits); (first | refine hK _ _ ?_ | (simp only [↓IntWalk.iteOmega]; go_simp; (try go_bits); refine hK _ _ ?_)); clear hK K)
          (refine Abs.step_load (v := ?_) rfl rfl (by kernel_rfl) rfl (fun w0 hI => ?_) (fun K hK => ?_); rotate_left; (· have z0 := (rcell (kp hI (ga))).1; have z1 := (rcell (kp hI (gb))).1; go_simp; rfl); (simp only [Act.put, List.setIfInBounds_toArray, List.set_cons_zero, List.set_cons_succ]; refine hK _ _ ?_; clear hK K))
          (refine Abs.step_pure rfl rfl (fun K hK => ?_); go_simp; (try go_bits); (first | refine hK _ _ ?_ | (simp only [↓IntWalk.iteOmega]; go_simp; (try go_bits); refine hK _ _ ?_)); clear hK K)
          (refine Abs.step_pure rfl rfl (fun K hK => ?_); go_simp; (try go_bits); (first | refine hK _ _ ?_ | (simp only [↓IntWalk.iteOmega]; go_simp; (try go_bits); refine hK _ _ ?_)); clear hK K)
          (refine Abs.step_load (v := ?_) rfl rfl (by kernel_rfl) rfl (fun w0 hI => ?_) (fun K hK => ?_); rotate_left; (· obtain ⟨zp0, zq0⟩ := PM w0 hI; obtain ⟨zp1, zq1⟩ := PN w0 hI; go_simp; rfl); (simp only [Act.put, List.setIfInBounds_toArray, List.set_cons_zero, List.set_cons_succ]; refine hK _ _ ?_; clear hK K))
          (refine Abs.step_pure rfl rfl (fun K hK => ?_); go_simp; (try go_bits); (first | refine hK _ _ ?_ | (simp only [↓IntWalk.iteOmega]; go_simp; (try go_bits); refine hK _ _ ?_)); clear hK K)
          (refine Abs.step_load (v := ?_) rfl rfl (by kernel_rfl) rfl (fun w0 hI => ?_) (fun K hK => ?_); rotate_left; (· have z0 := (rcell (kp hI (ga))).1; have z1 := (rcell (kp hI (gb))).1; go_simp; rfl); (simp only [Act.put, List.setIfInBounds_toArray, List.set_cons_zero, List.set_cons_succ]; refine hK _ _ ?_; clear hK K))
          (refine Abs.step_pure rfl rfl (fun K hK => ?_); go_simp; (try go_bits); (first | refine hK _ _ ?_ | (simp only [↓IntWalk.iteOmega]; go_simp; (try go_bits); refine hK _ _ ?_)); clear hK K)
          (refine Abs.step_pure rfl rfl (fun K hK => ?_); go_simp; (try go_bits); (first | refine hK _ _ ?_ | (simp only [↓IntWalk.iteOmega]; go_simp; (try go_bits); refine hK _ _ ?_)); clear hK K)
          (refine Abs.step_load (v := ?_) rfl rfl (by kernel_rfl) rfl (fun w0 hI => ?_) (fun K hK => ?_); rotate_left; (· obtain ⟨zp0, zq0⟩ := PM w0 hI; obtain ⟨zp1, zq1⟩ := PN w0 hI; go_simp; rfl); (simp only [Act.put, List.setIfInBounds_toArray, List.set_cons_zero, List.set_cons_succ]; refine hK _ _ ?_; clear hK K))
          (refine Abs.step_pure rfl rfl (fun K hK => ?_); go_simp; (try go_bits); (first | refine hK _ _ ?_ | (simp only [↓IntWalk.iteOmega]; go_simp; (try go_bits); refine hK _ _ ?_)); clear hK K)
          (intro w11 hb11 hx0 hx1 hx2; clear hx0 hx1 hx2; simp only [Abs.T_setF, Abs.T_addA, Abs.T_push, Abs.T_start])
          have hb12 := bB hbr hb11
          go_wp2_with fail
          go_roundw
          case rel => exact ⟨j + 1, by go_num, by omega, hb12⟩
          case measure => simp [intOf]; omega
        · have e1 : decide ((j : Int) < (o7 : Int)) = false := decide_eq_false (by omega)
          go_wp2_with fail
          go_ret
          exact ⟨rfl, HB10.out⟩
end Go.Proofs.YtlnonecibpjcoaaGreatDoor
