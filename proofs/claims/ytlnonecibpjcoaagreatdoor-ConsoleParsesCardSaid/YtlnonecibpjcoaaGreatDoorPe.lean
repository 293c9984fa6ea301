/- The document's answer for the console at this program: a name is made. The document's answer for the console at this program: a name is dropped. The document's answer for the console at this program: what is retained. -/
import Derived.Test.YtlnonecibpjcoaaGreatDoorPd
set_option linter.unusedSimpArgs false
set_option linter.unnecessarySimpa false
set_option linter.unusedVariables false
set_option linter.unusedSectionVars false
namespace Go.Proofs.YtlnonecibpjcoaaGreatDoor
open Go.RowKit
attribute [local go_sem] Oper.semAt_some

theorem exec_loadX {ρ : Operand → Value} {o : Oper} {t : TypeId} {p : Operand} {g : Nat} {T : TypeId} {cs : Array Value} {w : World} (ho : o.op = .load t p) (hp : ρ p = .pointer (some ⟨g, 0, none⟩)) (hg : w.heap[g]? = some (.cells cs T (0, 0)))
    (d : TypeDesc) (hd : d.isRow = true) (hu : Tryz.prog.underlying t = some d) (hi : (Tryz.prog.info? t).map (·.size) = some cs.size) : (execOp ρ o).run Tryz.prog w = .ok (.value (.agg cs)) w := by
  unfold execOp
  simp only [ho, hp, Instr.loadAt, Instr.sureAddr, Sem.run_bind, Sem.run_pure, Result.andThen_ok]
  rw [run_loadVar_row w g T t cs (0, 0) d hg hu (by cases d <;> first | rfl | cases hd) hi]
  rfl
theorem exec_buildX {ρ : Operand → Value} {o : Oper} {t : TypeId} {ps : Array (Nat × Operand)} {v : Value} {w : World} (ho : o.op = .build t ps) (qs : Array (Nat × Value)) (hp : (ps.map fun (i, x) => (i, ρ x)) = qs) (hv : (Instr.build t qs).run Tryz.prog w = .ok v w) : (execOp ρ o).run Tryz.prog w = .ok (.value v) w := by
  subst hp
  unfold execOp
  simp only [ho, Sem.run_bind, Sem.run_pure, Result.andThen_ok]
  rw [hv]
  rfl
theorem build29_m (kd : Int) (nm : ByteArray) (a f s : Int) (A : Option Addr) (n c : Nat) (w : World) : (Instr.build 29 #[(0, .int .i64 1), (1, .agg #[.int .i64 kd, .string nm, .int .i64 a, .int .i64 f, .int .i64 s, .slice A n c])]).run Tryz.prog w = .ok (.agg (OpV.cs ⟨1, kd, nm, a, f, s, A, n, c, 0, ⟨#[]⟩, 0, 0, 0, 0, ⟨#[]⟩, 0, 0⟩)) w := by kernel_rfl
theorem pairs_get : ∀ (xs : List Int) (m : Nat) (h : 2 * m + 1 < xs.length), (pairs xs)[m]? = some (xs[2 * m]'(by omega), xs[2 * m + 1]'h)
  | [], m, h => by simp at h
  | [_], m, h => by simp at h
  | x :: y :: l, 0, h => rfl
  | x :: y :: l, m + 1, h => by
    have h' : 2 * m + 1 < l.length := by simp only [List.length_cons] at h; omega
    rw [pairs, List.getElem?_cons_succ, pairs_get l m h']
    have e1 : 2 * (m + 1) = 2 * m + 1 + 1 := by omega
    have e2 : 2 * (m + 1) + 1 = 2 * m + 1 + 1 + 1 := by omega
    simp only [e1, List.getElem_cons_succ]
theorem ptsV_take {ps : List (Int × Int)} {m : Nat} {x y : Int} (h : ps[m]? = some (x, y)) : ptsV (ps.take (m + 1)) = ptsV (ps.take m) ++ [.int .i64 x, .int .i64 y] := by
  rw [List.take_add_one, h, Option.toList_some, ptsV_append]
  rfl

theorem late_old {W w0 : World} {sto : Nat → Prop} {k : Nat} {cs : Array Value} {t : TypeId} (h : (Abs.cls W sto).J w0) (hc : W.heap[k]? = some (.cells cs t (0, 0))) (hk : ¬ sto k) : w0.heap[k]? = some (.cells cs t (0, 0)) :=
  (h.2 k (Array.getElem?_eq_some_iff.1 hc).1 hk).trans hc
def mkR (nm : ByteArray) : List Int → Option Cm
  | [a, b] => some { ok := 1, mkd := 1, mn := nm, me := a, ms := b }
  | _ => none
def drR (nm : ByteArray) : List Int → Option Cm
  | [] => some { ok := 1, mkd := 2, mn := nm }
  | _ => none
def rtR (nm : ByteArray) : List Int → Option Cm
  | [a] => some { ok := 1, mkd := 4, mn := nm, mf := a }
  | _ => none
theorem mkR_is (nm : ByteArray) (xs : List Int) : rNamed wCreate nm xs = mkR nm xs := by
  have e : rNamed wCreate nm xs = (match xs with | [a, b] => some { ok := 1, mkd := 1, mn := nm, me := a, ms := b } | _ => none) := rfl
  rw [e]
  rcases xs with _ | ⟨a, _ | ⟨b, _ | ⟨c, l⟩⟩⟩ <;> rfl
theorem drR_is (nm : ByteArray) (xs : List Int) : rNamed wDrop nm xs = drR nm xs := by
  have e : rNamed wDrop nm xs = (match xs with | [] => some { ok := 1, mkd := 2, mn := nm } | _ => none) := rfl
  rw [e]
  rcases xs with _ | ⟨a, l⟩ <;> rfl
theorem rtR_is (nm : ByteArray) (xs : List Int) : rNamed wRetain nm xs = rtR nm xs := by
  have e : rNamed wRetain nm xs = (match xs with | [a] => some { ok := 1, mkd := 4, mn := nm, mf := a } | _ => none) := rfl
  rw [e]
  rcases xs with _ | ⟨a, _ | ⟨c, l⟩⟩ <;> rfl
set_option maxRecDepth 100000 in
set_option maxHeartbeats 16000000 in
theorem ref_Parse_create (hd nm : ByteArray) (r : List ByteArray) (hh : hd = wCreate) (hno : ∀ j, 1 ≤ j → j < 8 → rWhatB j ≠ hd) (hb : NoBare hd) (a6 : (hd.toList == ([114, 101, 97, 100] : List UInt8)) = false) (a7 : (hd.toList == ([98, 117, 99, 107, 101, 116, 115] : List UInt8)) = false) (hn : nm.size ≤ 40) (s : ByteArray) (hs : s.size ≤ 1000000) (h : rW s.data.toList ⟨#[]⟩ [] = some (hd :: nm :: r)) (hl : r.length ≤ 1000000) (hz : ∀ x ∈ r, x.size ≤ 1000000) (w : World) :
    Calls Tryz.prog 11 #[.string s] w (RPq (match pInts r with | some xs => rNamed hd nm xs | none => none) w) := by
  have c0 := ref_Words s hs (w.alloc (.cells zCmd 48))
  rw [h] at c0
  obtain ⟨R, hR⟩ : ∃ R : Option Cm, R = (match pInts r with | some xs => rNamed hd nm xs | none => none) := ⟨_, rfl⟩
  rw [← hR]
  have HR := hide hR
  clear hR h
  have HH := hide hh
  clear hh
  have f1 := na w zCmd 48
  have hb1 := bA (b0 w) (.cells zCmd 48)
  obtain ⟨a1, a2, a3, a4, a5⟩ := hb
  go_enter Tryz.func11, Tryz.ntmps11
  go_wp2_with fail
  refine c0.mono ?_
  rintro e w2 ⟨v, rfl, hO, hb2⟩
  obtain ⟨A, c, rfl, hr⟩ := hO.cr
  have f2 := kp hb2 f1
  have HB := hide (bB hb1 hb2)
  have hzc := zCmd_size
  have h1 := zCmd_one
  have hcap := hr.cap
  have hin := hr.inV
  rw [strV_len] at hcap
  obtain ⟨ad, rfl, hal, hc⟩ := hr.inV (by simp [strV])
  have q0 := hc 0 (by simp [strV])
  have q1 := hc 1 (by simp [strV])
  simp only [strV, List.map_cons, List.getElem_cons_zero, List.getElem_cons_succ, addr0] at q0 q1
  have q1 : w2.cell? ⟨ad.block, ad.off + 1, none⟩ = some (.string nm) := by simpa [Addr.add] using q1
  rw [strV_len]
  have hin2 := inV_from (j := 2) hcap hin
  have e9 : (hd :: nm :: r).drop 2 = r := rfl
  rw [e9] at hin2
  obtain ⟨A1, hA1⟩ : ∃ A1, A1 = some (if c - 2 = 0 then ad else ad.add 2) := ⟨_, rfl⟩
  obtain ⟨c1, hc1⟩ : ∃ c1, c1 = c - 2 := ⟨_, rfl⟩
  rw [← hA1] at hin2
  have HA1 := hide hA1
  have HC1 := hide hc1
  clear hA1 hc1
  have e0 : (hd :: nm :: r).length = r.length + 2 := rfl
  rw [e0] at hcap ⊢
  have e2 : decide ((r.length : Int) + 2 < 2) = false := decide_eq_false (by omega)
  have e3 : decide ((40 : Int) < (nm.size : Int)) = false := decide_eq_false (by omega)
  have cN := ref_numbers A1 c1 r hl hz w2 hin2
  clear c0 hb1 hO hc hr hz e0 hin hin2
  go_wp2_with (refine wpList_sliceFrom rfl _ _ rfl ad (r.length + 2) c 2 rfl rfl (by omega) hcap A1 r.length c1 HA1.out rfl HC1.out ?_; simp only [Act.put, List.setIfInBounds_toArray, List.set_cons_zero, List.set_cons_succ])
  refine cN.mono ?_
  rintro e w3 hp3
  have hB := HB.out
  cases hp : pInts r with
  | none =>
    rw [hp] at hp3
    obtain ⟨rfl, hb3⟩ := hp3
    have f3 := kp hb3 f2
    have HB3 := hide (bB hB hb3)
    have HN : Hid (R = none) := hide (by rw [HR.out, hp])
    clear hp hB hb3 f2 cN q0 q1
    go_wp2_with (first | (refine wpList_buildW rfl _ _ rfl (.agg zCmd) #[] (by simp [Act.eval]) (build48_0 _) ?_; simp only [Act.put, List.setIfInBounds_toArray, List.set_cons_zero, List.set_cons_succ]) | (refine wpList_storeW rfl _ _ _ rfl w.heap.size 48 _ zCmd rfl rfl f3 (by rw [size48, hzc]) rfl h1 ?_; simp only [Act.put]))
    exact rq_no rfl rfl f3 zCmd_size HB3.out HN.out
  | some xs =>
    rw [hp] at hp3
    obtain ⟨v3, rfl, hO3, hb3⟩ := hp3
    have f3 := kp hb3 f2
    have HB3 := hide (bB hB hb3)
    obtain ⟨A3, c3, rfl, hr3⟩ := hO3.cr
    have HI3 := hide hr3.inV
    have HN : Hid (R = rNamed hd nm xs) := hide (by rw [HR.out, hp])
    rw [intV_len]
    clear hp hB hb3 f2 cN q0 q1 hO3 hr3 hal HR HB HA1 HC1 hcap a1 a2 a3 a4 a5 a6 a7 e2 e3
    have HN : Hid (R = mkR nm xs) := hide (by rw [HN.out, HH.out]; exact mkR_is nm xs)
    have HNO := hide hno
    clear hno
    go_wp2_with fail
    go_loopw [22] (fun v22 wr => ∃ (k : Nat), v22 = .int .i64 (k : Int) ∧ 1 ≤ k ∧ k ≤ 8 ∧ Hid (Below w3.heap.size w3 wr)) (fun v22 _ => 9 - (intOf v22).toNat)
    case atStart => exact ⟨1, rfl, by omega, by omega, hide (b0 _)⟩
    case round =>
      obtain ⟨k, rfl, hk1, hkk, HBr⟩ := hrel
      rcases Nat.lt_or_ge k 8 with hlt | hge
      · have e1 : decide ((k : Int) ≤ 7) = true := decide_eq_true (by omega)
        have cW := fun W => ref_What k (by omega) W
        have hx : rWhatB k ≠ hd := HNO.out k hk1 hlt
        have ex := eqF hx
        generalize rWhatB k = K at *
        clear hx
        go_wp2_with fail
        refine (cW _).mono ?_
        rintro e w5 ⟨rfl, hb5⟩
        have HB5 := hide (bB HBr.out hb5)
        go_wp2_with fail
        go_roundw
        case rel => exact ⟨k + 1, by go_num, by omega, by omega, HB5⟩
        case measure => simp [intOf]; omega
      · have e1 : decide ((k : Int) ≤ 7) = false := decide_eq_false (by omega)
        obtain ⟨w5, hw5⟩ : ∃ w5, w5 = wr := ⟨_, rfl⟩
        rw [← hw5] at HBr ⊢
        clear hw5
        have fB := kp HBr.out f3
        obtain ⟨q, hq⟩ : ∃ q, q = w5.heap.size := ⟨_, rfl⟩
        have hqw : w.heap.size < q := by rw [hq]; exact (rcell fB).2.2
        have Hq := hide hq
        have hBw := hide (bB HB3.out HBr.out)
        have HI5 := hide (HI3.out.below HBr.out)
        clear HNO HBr f3 HI3 hq

        have bc : (hd.toList == ([99, 114, 101, 97, 116, 101] : List UInt8)) = true := litEq _ (by rw [HH.out]; rfl)
        have bd : (hd.toList == ([100, 114, 111, 112] : List UInt8)) = false := litNe _ (by rw [HH.out]; decide)
        have ba : (hd.toList == ([97, 112, 112, 101, 110, 100] : List UInt8)) = false := litNe _ (by rw [HH.out]; decide)
        have br : (hd.toList == ([114, 101, 116, 97, 105, 110] : List UInt8)) = false := litNe _ (by rw [HH.out]; decide)
        clear HH
        by_cases hx : xs.length = 2
        · match xs, hx with
          | [a, b], _ =>
            have HN2 : Hid (R = some { ok := 1, mkd := 1, mn := nm, me := a, ms := b }) := hide (HN.out.trans rfl)
            obtain ⟨ad3, rfl, hal3, hc3⟩ := HI5.out (by simp [intV])
            have p0 := hc3 0 (by simp [intV])
            have p1 := hc3 1 (by simp [intV])
            simp only [intV, List.map_cons, List.getElem_cons_zero, List.getElem_cons_succ, addr0] at p0 p1
            have p1 : w5.cell? ⟨ad3.block, ad3.off + 1, none⟩ = some (.int .i64 b) := by simpa [Addr.add] using p1
            simp only [List.length_cons, List.length_nil]
            clear hc3 HI5 HN
            go_wp2_with (first
              | (refine wpList_storeW rfl _ _ _ rfl w5.heap.size 24 _ #[.int .i64 0, .string nm, .int .i64 0, .int .i64 0, .int .i64 0, .slice none 0 0] rfl rfl (na _ _ _) size24 rfl (by simp [Value.oneCell']) ?_; simp only [Act.put]; generalize hT6 : setRow _ _ _ = w6; obtain ⟨hx6, g6⟩ := fin_x (b0 _) (na w5 _ 24) hT6; have f6 := kx hx6 (kp (bA (b0 _) _) fB) (by have := Hq.out; omega); have HB6 := hide (bX (bA (b0 w5) _) hx6 (Nat.le_refl _)); rw [← Hq.out] at g6 ⊢; clear hT6 hx6)
              | (refine wpList_storeI rfl 3 _ _ rfl q 0 24 _ .i64 1 rfl rfl g6 (by simp) (fun w => Tryz.sizeOf3 w) ?_; generalize hT7 : setRow _ _ _ = w7; obtain ⟨hx7, g7⟩ := fin_x (b0 _) g6 hT7; simp only [List.setIfInBounds_toArray, List.set_cons_zero, List.set_cons_succ] at g7; have f7 := kx hx7 f6 (by omega); have HB7 := hide (bX HB6.out hx7 (by have := Hq.out; omega)); have p0_7 := (HB7.out.cell (p := ad3) hal3).trans p0; clear hT7 hx7)
              | (refine wpList_storeI rfl 2 _ _ rfl q 2 24 _ .i64 a rfl rfl g7 (by simp) (fun w => Tryz.sizeOf2 w) ?_; generalize hT8 : setRow _ _ _ = w8; obtain ⟨hx8, g8⟩ := fin_x (b0 _) g7 hT8; simp only [List.setIfInBounds_toArray, List.set_cons_zero, List.set_cons_succ] at g8; have f8 := kx hx8 f7 (by omega); have HB8 := hide (bX HB7.out hx8 (by have := Hq.out; omega)); have p1_8 := (HB8.out.cell (p := ⟨ad3.block, ad3.off + 1, none⟩) hal3).trans p1; clear hT8 hx8)
              | (refine wpList_storeI rfl 3 _ _ rfl q 4 24 _ .i64 b rfl rfl g8 (by simp) (fun w => Tryz.sizeOf3 w) ?_; generalize hT9 : setRow _ _ _ = w9; obtain ⟨hx9, g9⟩ := fin_x (b0 _) g8 hT9; simp only [List.setIfInBounds_toArray, List.set_cons_zero, List.set_cons_succ] at g9; have f9 := kx hx9 f8 (by omega); have HB9 := hide (bX HB8.out hx9 (by have := Hq.out; omega)); clear hT9 hx9))
            have bO := build29_m (1) nm (a) (0) (b) none (0) (0)
            obtain ⟨O, hO⟩ : ∃ O, O = OpV.cs ⟨1, 1, nm, a, 0, b, none, 0, 0, 0, ⟨#[]⟩, 0, 0, 0, 0, ⟨#[]⟩, 0, 0⟩ := ⟨_, rfl⟩
            obtain ⟨Y, hY⟩ : ∃ Y, Y = cmdCs 1 ⟨1, 1, nm, a, 0, b, none, 0, 0, 0, ⟨#[]⟩, 0, 0, 0, 0, ⟨#[]⟩, 0, 0⟩ 0 none 0 0 := ⟨_, rfl⟩
            have bY := build48_op ⟨1, 1, nm, a, 0, b, none, 0, 0, 0, ⟨#[]⟩, 0, 0, 0, 0, ⟨#[]⟩, 0, 0⟩
            have hYs : Y.size = 19 := by rw [hY]; rfl
            have hY1 : Y.all (·.oneCell') = true := by rw [hY]; exact cmd_one _ _ _ _ _ _
            have HC := hide (show ∀ W, CmdIs w.heap.size W (.agg Y) { ok := 1, mkd := 1, mn := nm, me := a, ms := b } from by rw [hY]; exact fun W => ⟨none, 0, none, 0, rfl, RS.nil _, RS.nil _⟩)
            rw [← hO] at bO bY
            rw [← hY] at bY
            clear hO hY
            have hBe := hide (bB hBw.out HB9.out)
            refine Abs.wp_region_abs (Abs.cls _ (fun k => k = w.heap.size)) [0, 1, 2, 3, 4, 5, 6, 7] (by kernel_rfl) (by kernel_rfl) (Below.refl _ _).drew ?_
            (refine Abs.step_load (v := .agg #[.int .i64 1, .string nm, .int .i64 a, .int .i64 0, .int .i64 b, .slice none 0 0]) rfl rfl (by kernel_rfl) rfl (fun w0 hI => ?_) (fun K hK => ?_); (· have hf := kp hI g9; exact exec_loadX rfl rfl hf _ rfl Tryz.underlying24 size24); (simp only [Act.put, List.setIfInBounds_toArray, List.set_cons_zero, List.set_cons_succ]; refine hK _ _ ?_; clear hK K))
            (refine Abs.step_pure rfl rfl (fun K hK => ⟨(.agg O), fun w0 => exec_buildX rfl #[(0, .int .i64 1), (1, .agg #[.int .i64 1, .string nm, .int .i64 a, .int .i64 0, .int .i64 b, .slice none 0 0])] (by simp [Act.eval]) (bO _), ?_⟩); (simp only [Act.put, List.setIfInBounds_toArray, List.set_cons_zero, List.set_cons_succ]; refine hK _ _ ?_; clear hK K))
            (refine Abs.step_pure rfl rfl (fun K hK => ⟨(.agg Y), fun w0 => exec_buildX rfl #[(0, .int .i64 1), (1, .agg O)] (by simp [Act.eval]) (bY _), ?_⟩); (simp only [Act.put, List.setIfInBounds_toArray, List.set_cons_zero, List.set_cons_succ]; refine hK _ _ ?_; clear hK K))
            (refine Abs.step_pure rfl rfl (fun K hK => ?_); go_simp; (try go_bits); (first | refine hK _ _ ?_ | (simp only [↓IntWalk.iteOmega]; go_simp; (try go_bits); refine hK _ _ ?_)); clear hK K)
            (refine Abs.step_late (v := ?_) rfl rfl (fun w0 hI => ?_) (fun K hK => ?_); rotate_left; (· have z0 := (rcell (late_old hI (g9) (by have := Hq.out; omega))).1; go_simp; rfl); (simp only [Act.put, List.setIfInBounds_toArray, List.set_cons_zero, List.set_cons_succ]; refine hK _ _ ?_; clear hK K))
            (refine Abs.step_pure rfl rfl (fun K hK => ?_); go_simp; (try go_bits); (first | refine hK _ _ ?_ | (simp only [↓IntWalk.iteOmega]; go_simp; (try go_bits); refine hK _ _ ?_)); clear hK K)
            (refine Abs.step_store (T := fun w0 => setRow w0 w.heap.size Y) rfl rfl rfl (fun w0 hI hF hU => ?_) (fun w0 hI hU hJ => js hJ rfl _) (fun K hK => ?_); (· simp only [Abs.T_setF, Abs.T_addA, Abs.T_push, Abs.T_start]; exact exec_storeX rfl rfl rfl (kp hI f9) (by rw [size48, hYs]) (by rw [hYs]; rfl) hY1); (simp only [Act.put, List.setIfInBounds_toArray, List.set_cons_zero, List.set_cons_succ]; refine hK _ _ ?_; clear hK K))
            (refine Abs.step_pure rfl rfl (fun K hK => ?_); go_simp; (try go_bits); (first | refine hK _ _ ?_ | (simp only [↓IntWalk.iteOmega]; go_simp; (try go_bits); refine hK _ _ ?_)); clear hK K)
            intro w0 hI hF hx1 hx2
            clear hx1 hx2 hF
            simp only [Abs.T_setF, Abs.T_addA, Abs.T_push, Abs.T_start]
            have fE := kp hI f9
            have hBE := hide (bB hBe.out hI)
            go_wp2_with fail
            exact rq_yes rfl rfl fE hYs hBE.out (HC.out _) HN2.out
        · have HN2 : Hid (R = none) := hide (by
            rw [HN.out]
            match xs, hx with
            | [], _ => rfl
            | [_], _ => rfl
            | _ :: _ :: _ :: _, _ => rfl)
          have e5 : ((xs.length : Int) == 2) = false := beq_eq_false_iff_ne.2 (by omega)
          have e7 : decide ((xs.length : Int) = 2) = false := decide_eq_false (by omega)
          clear HN HI5
          go_wp2_with (first
            | (refine wpList_storeW rfl _ _ _ rfl w5.heap.size 24 _ #[.int .i64 0, .string nm, .int .i64 0, .int .i64 0, .int .i64 0, .slice none 0 0] rfl rfl (na _ _ _) size24 rfl (by simp [Value.oneCell']) ?_; simp only [Act.put]; generalize hT6 : setRow _ _ _ = w6; obtain ⟨hx6, g6⟩ := fin_x (b0 _) (na w5 _ 24) hT6; have f6 := kx hx6 (kp (bA (b0 _) _) fB) (by have := Hq.out; omega); have HB6 := hide (bX (bA (b0 w5) _) hx6 (Nat.le_refl _)); rw [← Hq.out] at g6 ⊢; clear hT6 hx6))
          have bO := build29_m (0) nm (0) (0) (0) none (0) (0)
          obtain ⟨O, hO⟩ : ∃ O, O = OpV.cs ⟨1, 0, nm, 0, 0, 0, none, 0, 0, 0, ⟨#[]⟩, 0, 0, 0, 0, ⟨#[]⟩, 0, 0⟩ := ⟨_, rfl⟩
          obtain ⟨Y, hY⟩ : ∃ Y, Y = cmdCs 1 ⟨1, 0, nm, 0, 0, 0, none, 0, 0, 0, ⟨#[]⟩, 0, 0, 0, 0, ⟨#[]⟩, 0, 0⟩ 0 none 0 0 := ⟨_, rfl⟩
          have bY := build48_op ⟨1, 0, nm, 0, 0, 0, none, 0, 0, 0, ⟨#[]⟩, 0, 0, 0, 0, ⟨#[]⟩, 0, 0⟩
          have hYs : Y.size = 19 := by rw [hY]; rfl
          have hY1 : Y.all (·.oneCell') = true := by rw [hY]; exact cmd_one _ _ _ _ _ _
          rw [← hO] at bO bY
          rw [← hY] at bY
          clear hO hY
          have hBe := hide (bB hBw.out HB6.out)
          refine Abs.wp_region_abs (Abs.cls _ (fun k => k = w.heap.size)) [0, 1, 2, 3, 4, 5, 6, 7] (by kernel_rfl) (by kernel_rfl) (Below.refl _ _).drew ?_
          (refine Abs.step_load (v := .agg #[.int .i64 0, .string nm, .int .i64 0, .int .i64 0, .int .i64 0, .slice none 0 0]) rfl rfl (by kernel_rfl) rfl (fun w0 hI => ?_) (fun K hK => ?_); (· have hf := kp hI g6; exact exec_loadX rfl rfl hf _ rfl Tryz.underlying24 size24); (simp only [Act.put, List.setIfInBounds_toArray, List.set_cons_zero, List.set_cons_succ]; refine hK _ _ ?_; clear hK K))
          (refine Abs.step_pure rfl rfl (fun K hK => ⟨(.agg O), fun w0 => exec_buildX rfl #[(0, .int .i64 1), (1, .agg #[.int .i64 0, .string nm, .int .i64 0, .int .i64 0, .int .i64 0, .slice none 0 0])] (by simp [Act.eval]) (bO _), ?_⟩); (simp only [Act.put, List.setIfInBounds_toArray, List.set_cons_zero, List.set_cons_succ]; refine hK _ _ ?_; clear hK K))
          (refine Abs.step_pure rfl rfl (fun K hK => ⟨(.agg Y), fun w0 => exec_buildX rfl #[(0, .int .i64 1), (1, .agg O)] (by simp [Act.eval]) (bY _), ?_⟩); (simp only [Act.put, List.setIfInBounds_toArray, List.set_cons_zero, List.set_cons_succ]; refine hK _ _ ?_; clear hK K))
          (refine Abs.step_pure rfl rfl (fun K hK => ?_); go_simp; (try go_bits); (first | refine hK _ _ ?_ | (simp only [↓IntWalk.iteOmega]; go_simp; (try go_bits); refine hK _ _ ?_)); clear hK K)
          (refine Abs.step_late (v := ?_) rfl rfl (fun w0 hI => ?_) (fun K hK => ?_); rotate_left; (· have z0 := (rcell (late_old hI (g6) (by have := Hq.out; omega))).1; go_simp; rfl); (simp only [Act.put, List.setIfInBounds_toArray, List.set_cons_zero, List.set_cons_succ]; refine hK _ _ ?_; clear hK K))
          (refine Abs.step_pure rfl rfl (fun K hK => ?_); go_simp; (try go_bits); (first | refine hK _ _ ?_ | (simp only [↓IntWalk.iteOmega]; go_simp; (try go_bits); refine hK _ _ ?_)); clear hK K)
          (refine Abs.step_store (T := fun w0 => setRow w0 w.heap.size Y) rfl rfl rfl (fun w0 hI hF hU => ?_) (fun w0 hI hU hJ => js hJ rfl _) (fun K hK => ?_); (· simp only [Abs.T_setF, Abs.T_addA, Abs.T_push, Abs.T_start]; exact exec_storeX rfl rfl rfl (kp hI f6) (by rw [size48, hYs]) (by rw [hYs]; rfl) hY1); (simp only [Act.put, List.setIfInBounds_toArray, List.set_cons_zero, List.set_cons_succ]; refine hK _ _ ?_; clear hK K))
          (refine Abs.step_pure rfl rfl (fun K hK => ?_); go_simp; (try go_bits); (first | refine hK _ _ ?_ | (simp only [↓IntWalk.iteOmega]; go_simp; (try go_bits); refine hK _ _ ?_)); clear hK K)
          intro w0 hI hF hx1 hx2
          clear hx1 hx2 hF
          simp only [Abs.T_setF, Abs.T_addA, Abs.T_push, Abs.T_start]
          have fE := kp hI f6
          have hBE := hide (bB hBe.out hI)
          go_wp2_with fail
          exact rq_no rfl rfl fE hYs hBE.out HN2.out
end Go.Proofs.YtlnonecibpjcoaaGreatDoor

namespace Go.Proofs.YtlnonecibpjcoaaGreatDoor
open Go.RowKit
attribute [local go_sem] Oper.semAt_some

set_option maxRecDepth 100000 in
set_option maxHeartbeats 16000000 in
theorem ref_Parse_drop (hd nm : ByteArray) (r : List ByteArray) (hh : hd = wDrop) (hno : ∀ j, 1 ≤ j → j < 8 → rWhatB j ≠ hd) (hb : NoBare hd) (a6 : (hd.toList == ([114, 101, 97, 100] : List UInt8)) = false) (a7 : (hd.toList == ([98, 117, 99, 107, 101, 116, 115] : List UInt8)) = false) (hn : nm.size ≤ 40) (s : ByteArray) (hs : s.size ≤ 1000000) (h : rW s.data.toList ⟨#[]⟩ [] = some (hd :: nm :: r)) (hl : r.length ≤ 1000000) (hz : ∀ x ∈ r, x.size ≤ 1000000) (w : World) :
    Calls Tryz.prog 11 #[.string s] w (RPq (match pInts r with | some xs => rNamed hd nm xs | none => none) w) := by
  have c0 := ref_Words s hs (w.alloc (.cells zCmd 48))
  rw [h] at c0
  obtain ⟨R, hR⟩ : ∃ R : Option Cm, R = (match pInts r with | some xs => rNamed hd nm xs | none => none) := ⟨_, rfl⟩
  rw [← hR]
  have HR := hide hR
  clear hR h
  have HH := hide hh
  clear hh
  have f1 := na w zCmd 48
  have hb1 := bA (b0 w) (.cells zCmd 48)
  obtain ⟨a1, a2, a3, a4, a5⟩ := hb
  go_enter Tryz.func11, Tryz.ntmps11
  go_wp2_with fail
  refine c0.mono ?_
  rintro e w2 ⟨v, rfl, hO, hb2⟩
  obtain ⟨A, c, rfl, hr⟩ := hO.cr
  have f2 := kp hb2 f1
  have HB := hide (bB hb1 hb2)
  have hzc := zCmd_size
  have h1 := zCmd_one
  have hcap := hr.cap
  have hin := hr.inV
  rw [strV_len] at hcap
  obtain ⟨ad, rfl, hal, hc⟩ := hr.inV (by simp [strV])
  have q0 := hc 0 (by simp [strV])
  have q1 := hc 1 (by simp [strV])
  simp only [strV, List.map_cons, List.getElem_cons_zero, List.getElem_cons_succ, addr0] at q0 q1
  have q1 : w2.cell? ⟨ad.block, ad.off + 1, none⟩ = some (.string nm) := by simpa [Addr.add] using q1
  rw [strV_len]
  have hin2 := inV_from (j := 2) hcap hin
  have e9 : (hd :: nm :: r).drop 2 = r := rfl
  rw [e9] at hin2
  obtain ⟨A1, hA1⟩ : ∃ A1, A1 = some (if c - 2 = 0 then ad else ad.add 2) := ⟨_, rfl⟩
  obtain ⟨c1, hc1⟩ : ∃ c1, c1 = c - 2 := ⟨_, rfl⟩
  rw [← hA1] at hin2
  have HA1 := hide hA1
  have HC1 := hide hc1
  clear hA1 hc1
  have e0 : (hd :: nm :: r).length = r.length + 2 := rfl
  rw [e0] at hcap ⊢
  have e2 : decide ((r.length : Int) + 2 < 2) = false := decide_eq_false (by omega)
  have e3 : decide ((40 : Int) < (nm.size : Int)) = false := decide_eq_false (by omega)
  have cN := ref_numbers A1 c1 r hl hz w2 hin2
  clear c0 hb1 hO hc hr hz e0 hin hin2
  go_wp2_with (refine wpList_sliceFrom rfl _ _ rfl ad (r.length + 2) c 2 rfl rfl (by omega) hcap A1 r.length c1 HA1.out rfl HC1.out ?_; simp only [Act.put, List.setIfInBounds_toArray, List.set_cons_zero, List.set_cons_succ])
  refine cN.mono ?_
  rintro e w3 hp3
  have hB := HB.out
  cases hp : pInts r with
  | none =>
    rw [hp] at hp3
    obtain ⟨rfl, hb3⟩ := hp3
    have f3 := kp hb3 f2
    have HB3 := hide (bB hB hb3)
    have HN : Hid (R = none) := hide (by rw [HR.out, hp])
    clear hp hB hb3 f2 cN q0 q1
    go_wp2_with (first | (refine wpList_buildW rfl _ _ rfl (.agg zCmd) #[] (by simp [Act.eval]) (build48_0 _) ?_; simp only [Act.put, List.setIfInBounds_toArray, List.set_cons_zero, List.set_cons_succ]) | (refine wpList_storeW rfl _ _ _ rfl w.heap.size 48 _ zCmd rfl rfl f3 (by rw [size48, hzc]) rfl h1 ?_; simp only [Act.put]))
    exact rq_no rfl rfl f3 zCmd_size HB3.out HN.out
  | some xs =>
    rw [hp] at hp3
    obtain ⟨v3, rfl, hO3, hb3⟩ := hp3
    have f3 := kp hb3 f2
    have HB3 := hide (bB hB hb3)
    obtain ⟨A3, c3, rfl, hr3⟩ := hO3.cr
    have HI3 := hide hr3.inV
    have HN : Hid (R = rNamed hd nm xs) := hide (by rw [HR.out, hp])
    rw [intV_len]
    clear hp hB hb3 f2 cN q0 q1 hO3 hr3 hal HR HB HA1 HC1 hcap a1 a2 a3 a4 a5 a6 a7 e2 e3
    have HN : Hid (R = drR nm xs) := hide (by rw [HN.out, HH.out]; exact drR_is nm xs)
    have HNO := hide hno
    clear hno
    go_wp2_with fail
    go_loopw [22] (fun v22 wr => ∃ (k : Nat), v22 = .int .i64 (k : Int) ∧ 1 ≤ k ∧ k ≤ 8 ∧ Hid (Below w3.heap.size w3 wr)) (fun v22 _ => 9 - (intOf v22).toNat)
    case atStart => exact ⟨1, rfl, by omega, by omega, hide (b0 _)⟩
    case round =>
      obtain ⟨k, rfl, hk1, hkk, HBr⟩ := hrel
      rcases Nat.lt_or_ge k 8 with hlt | hge
      · have e1 : decide ((k : Int) ≤ 7) = true := decide_eq_true (by omega)
        have cW := fun W => ref_What k (by omega) W
        have hx : rWhatB k ≠ hd := HNO.out k hk1 hlt
        have ex := eqF hx
        generalize rWhatB k = K at *
        clear hx
        go_wp2_with fail
        refine (cW _).mono ?_
        rintro e w5 ⟨rfl, hb5⟩
        have HB5 := hide (bB HBr.out hb5)
        go_wp2_with fail
        go_roundw
        case rel => exact ⟨k + 1, by go_num, by omega, by omega, HB5⟩
        case measure => simp [intOf]; omega
      · have e1 : decide ((k : Int) ≤ 7) = false := decide_eq_false (by omega)
        obtain ⟨w5, hw5⟩ : ∃ w5, w5 = wr := ⟨_, rfl⟩
        rw [← hw5] at HBr ⊢
        clear hw5
        have fB := kp HBr.out f3
        obtain ⟨q, hq⟩ : ∃ q, q = w5.heap.size := ⟨_, rfl⟩
        have hqw : w.heap.size < q := by rw [hq]; exact (rcell fB).2.2
        have Hq := hide hq
        have hBw := hide (bB HB3.out HBr.out)
        have HI5 := hide (HI3.out.below HBr.out)
        clear HNO HBr f3 HI3 hq

        have bc : (hd.toList == ([99, 114, 101, 97, 116, 101] : List UInt8)) = false := litNe _ (by rw [HH.out]; decide)
        have bd : (hd.toList == ([100, 114, 111, 112] : List UInt8)) = true := litEq _ (by rw [HH.out]; rfl)
        have ba : (hd.toList == ([97, 112, 112, 101, 110, 100] : List UInt8)) = false := litNe _ (by rw [HH.out]; decide)
        have br : (hd.toList == ([114, 101, 116, 97, 105, 110] : List UInt8)) = false := litNe _ (by rw [HH.out]; decide)
        clear HH
        by_cases hx : xs.length = 0
        · match xs, hx with
          | [], _ =>
            have HN2 : Hid (R = some { ok := 1, mkd := 2, mn := nm }) := hide (HN.out.trans rfl)
            simp only [List.length_cons, List.length_nil]
            clear HI5 HN
            go_wp2_with (first
              | (refine wpList_storeW rfl _ _ _ rfl w5.heap.size 24 _ #[.int .i64 0, .string nm, .int .i64 0, .int .i64 0, .int .i64 0, .slice none 0 0] rfl rfl (na _ _ _) size24 rfl (by simp [Value.oneCell']) ?_; simp only [Act.put]; generalize hT6 : setRow _ _ _ = w6; obtain ⟨hx6, g6⟩ := fin_x (b0 _) (na w5 _ 24) hT6; have f6 := kx hx6 (kp (bA (b0 _) _) fB) (by have := Hq.out; omega); have HB6 := hide (bX (bA (b0 w5) _) hx6 (Nat.le_refl _)); rw [← Hq.out] at g6 ⊢; clear hT6 hx6)
              | (refine wpList_storeI rfl 3 _ _ rfl q 0 24 _ .i64 2 rfl rfl g6 (by simp) (fun w => Tryz.sizeOf3 w) ?_; generalize hT7 : setRow _ _ _ = w7; obtain ⟨hx7, g7⟩ := fin_x (b0 _) g6 hT7; simp only [List.setIfInBounds_toArray, List.set_cons_zero, List.set_cons_succ] at g7; have f7 := kx hx7 f6 (by omega); have HB7 := hide (bX HB6.out hx7 (by have := Hq.out; omega)); clear hT7 hx7))
            have bO := build29_m (2) nm (0) (0) (0) none (0) (0)
            obtain ⟨O, hO⟩ : ∃ O, O = OpV.cs ⟨1, 2, nm, 0, 0, 0, none, 0, 0, 0, ⟨#[]⟩, 0, 0, 0, 0, ⟨#[]⟩, 0, 0⟩ := ⟨_, rfl⟩
            obtain ⟨Y, hY⟩ : ∃ Y, Y = cmdCs 1 ⟨1, 2, nm, 0, 0, 0, none, 0, 0, 0, ⟨#[]⟩, 0, 0, 0, 0, ⟨#[]⟩, 0, 0⟩ 0 none 0 0 := ⟨_, rfl⟩
            have bY := build48_op ⟨1, 2, nm, 0, 0, 0, none, 0, 0, 0, ⟨#[]⟩, 0, 0, 0, 0, ⟨#[]⟩, 0, 0⟩
            have hYs : Y.size = 19 := by rw [hY]; rfl
            have hY1 : Y.all (·.oneCell') = true := by rw [hY]; exact cmd_one _ _ _ _ _ _
            have HC := hide (show ∀ W, CmdIs w.heap.size W (.agg Y) { ok := 1, mkd := 2, mn := nm } from by rw [hY]; exact fun W => ⟨none, 0, none, 0, rfl, RS.nil _, RS.nil _⟩)
            rw [← hO] at bO bY
            rw [← hY] at bY
            clear hO hY
            have hBe := hide (bB hBw.out HB7.out)
            refine Abs.wp_region_abs (Abs.cls _ (fun k => k = w.heap.size)) [0, 1, 2, 3, 4, 5, 6, 7] (by kernel_rfl) (by kernel_rfl) (Below.refl _ _).drew ?_
            (refine Abs.step_load (v := .agg #[.int .i64 2, .string nm, .int .i64 0, .int .i64 0, .int .i64 0, .slice none 0 0]) rfl rfl (by kernel_rfl) rfl (fun w0 hI => ?_) (fun K hK => ?_); (· have hf := kp hI g7; exact exec_loadX rfl rfl hf _ rfl Tryz.underlying24 size24); (simp only [Act.put, List.setIfInBounds_toArray, List.set_cons_zero, List.set_cons_succ]; refine hK _ _ ?_; clear hK K))
            (refine Abs.step_pure rfl rfl (fun K hK => ⟨(.agg O), fun w0 => exec_buildX rfl #[(0, .int .i64 1), (1, .agg #[.int .i64 2, .string nm, .int .i64 0, .int .i64 0, .int .i64 0, .slice none 0 0])] (by simp [Act.eval]) (bO _), ?_⟩); (simp only [Act.put, List.setIfInBounds_toArray, List.set_cons_zero, List.set_cons_succ]; refine hK _ _ ?_; clear hK K))
            (refine Abs.step_pure rfl rfl (fun K hK => ⟨(.agg Y), fun w0 => exec_buildX rfl #[(0, .int .i64 1), (1, .agg O)] (by simp [Act.eval]) (bY _), ?_⟩); (simp only [Act.put, List.setIfInBounds_toArray, List.set_cons_zero, List.set_cons_succ]; refine hK _ _ ?_; clear hK K))
            (refine Abs.step_pure rfl rfl (fun K hK => ?_); go_simp; (try go_bits); (first | refine hK _ _ ?_ | (simp only [↓IntWalk.iteOmega]; go_simp; (try go_bits); refine hK _ _ ?_)); clear hK K)
            (refine Abs.step_late (v := ?_) rfl rfl (fun w0 hI => ?_) (fun K hK => ?_); rotate_left; (· have z0 := (rcell (late_old hI (g7) (by have := Hq.out; omega))).1; go_simp; rfl); (simp only [Act.put, List.setIfInBounds_toArray, List.set_cons_zero, List.set_cons_succ]; refine hK _ _ ?_; clear hK K))
            (refine Abs.step_pure rfl rfl (fun K hK => ?_); go_simp; (try go_bits); (first | refine hK _ _ ?_ | (simp only [↓IntWalk.iteOmega]; go_simp; (try go_bits); refine hK _ _ ?_)); clear hK K)
            (refine Abs.step_store (T := fun w0 => setRow w0 w.heap.size Y) rfl rfl rfl (fun w0 hI hF hU => ?_) (fun w0 hI hU hJ => js hJ rfl _) (fun K hK => ?_); (· simp only [Abs.T_setF, Abs.T_addA, Abs.T_push, Abs.T_start]; exact exec_storeX rfl rfl rfl (kp hI f7) (by rw [size48, hYs]) (by rw [hYs]; rfl) hY1); (simp only [Act.put, List.setIfInBounds_toArray, List.set_cons_zero, List.set_cons_succ]; refine hK _ _ ?_; clear hK K))
            (refine Abs.step_pure rfl rfl (fun K hK => ?_); go_simp; (try go_bits); (first | refine hK _ _ ?_ | (simp only [↓IntWalk.iteOmega]; go_simp; (try go_bits); refine hK _ _ ?_)); clear hK K)
            intro w0 hI hF hx1 hx2
            clear hx1 hx2 hF
            simp only [Abs.T_setF, Abs.T_addA, Abs.T_push, Abs.T_start]
            have fE := kp hI f7
            have hBE := hide (bB hBe.out hI)
            go_wp2_with fail
            exact rq_yes rfl rfl fE hYs hBE.out (HC.out _) HN2.out
        · have HN2 : Hid (R = none) := hide (by
            rw [HN.out]
            match xs, hx with
            | _ :: _, _ => rfl)
          have e5 : ((xs.length : Int) == 0) = false := beq_eq_false_iff_ne.2 (by omega)
          have e7 : decide ((xs.length : Int) = 0) = false := decide_eq_false (by omega)
          clear HN HI5
          go_wp2_with (first
            | (refine wpList_storeW rfl _ _ _ rfl w5.heap.size 24 _ #[.int .i64 0, .string nm, .int .i64 0, .int .i64 0, .int .i64 0, .slice none 0 0] rfl rfl (na _ _ _) size24 rfl (by simp [Value.oneCell']) ?_; simp only [Act.put]; generalize hT6 : setRow _ _ _ = w6; obtain ⟨hx6, g6⟩ := fin_x (b0 _) (na w5 _ 24) hT6; have f6 := kx hx6 (kp (bA (b0 _) _) fB) (by have := Hq.out; omega); have HB6 := hide (bX (bA (b0 w5) _) hx6 (Nat.le_refl _)); rw [← Hq.out] at g6 ⊢; clear hT6 hx6))
          have bO := build29_m (0) nm (0) (0) (0) none (0) (0)
          obtain ⟨O, hO⟩ : ∃ O, O = OpV.cs ⟨1, 0, nm, 0, 0, 0, none, 0, 0, 0, ⟨#[]⟩, 0, 0, 0, 0, ⟨#[]⟩, 0, 0⟩ := ⟨_, rfl⟩
          obtain ⟨Y, hY⟩ : ∃ Y, Y = cmdCs 1 ⟨1, 0, nm, 0, 0, 0, none, 0, 0, 0, ⟨#[]⟩, 0, 0, 0, 0, ⟨#[]⟩, 0, 0⟩ 0 none 0 0 := ⟨_, rfl⟩
          have bY := build48_op ⟨1, 0, nm, 0, 0, 0, none, 0, 0, 0, ⟨#[]⟩, 0, 0, 0, 0, ⟨#[]⟩, 0, 0⟩
          have hYs : Y.size = 19 := by rw [hY]; rfl
          have hY1 : Y.all (·.oneCell') = true := by rw [hY]; exact cmd_one _ _ _ _ _ _
          rw [← hO] at bO bY
          rw [← hY] at bY
          clear hO hY
          have hBe := hide (bB hBw.out HB6.out)
          refine Abs.wp_region_abs (Abs.cls _ (fun k => k = w.heap.size)) [0, 1, 2, 3, 4, 5, 6, 7] (by kernel_rfl) (by kernel_rfl) (Below.refl _ _).drew ?_
          (refine Abs.step_load (v := .agg #[.int .i64 0, .string nm, .int .i64 0, .int .i64 0, .int .i64 0, .slice none 0 0]) rfl rfl (by kernel_rfl) rfl (fun w0 hI => ?_) (fun K hK => ?_); (· have hf := kp hI g6; exact exec_loadX rfl rfl hf _ rfl Tryz.underlying24 size24); (simp only [Act.put, List.setIfInBounds_toArray, List.set_cons_zero, List.set_cons_succ]; refine hK _ _ ?_; clear hK K))
          (refine Abs.step_pure rfl rfl (fun K hK => ⟨(.agg O), fun w0 => exec_buildX rfl #[(0, .int .i64 1), (1, .agg #[.int .i64 0, .string nm, .int .i64 0, .int .i64 0, .int .i64 0, .slice none 0 0])] (by simp [Act.eval]) (bO _), ?_⟩); (simp only [Act.put, List.setIfInBounds_toArray, List.set_cons_zero, List.set_cons_succ]; refine hK _ _ ?_; clear hK K))
          (refine Abs.step_pure rfl rfl (fun K hK => ⟨(.agg Y), fun w0 => exec_buildX rfl #[(0, .int .i64 1), (1, .agg O)] (by simp [Act.eval]) (bY _), ?_⟩); (simp only [Act.put, List.setIfInBounds_toArray, List.set_cons_zero, List.set_cons_succ]; refine hK _ _ ?_; clear hK K))
          (refine Abs.step_pure rfl rfl (fun K hK => ?_); go_simp; (try go_bits); (first | refine hK _ _ ?_ | (simp only [↓IntWalk.iteOmega]; go_simp; (try go_bits); refine hK _ _ ?_)); clear hK K)
          (refine Abs.step_late (v := ?_) rfl rfl (fun w0 hI => ?_) (fun K hK => ?_); rotate_left; (· have z0 := (rcell (late_old hI (g6) (by have := Hq.out; omega))).1; go_simp; rfl); (simp only [Act.put, List.setIfInBounds_toArray, List.set_cons_zero, List.set_cons_succ]; refine hK _ _ ?_; clear hK K))
          (refine Abs.step_pure rfl rfl (fun K hK => ?_); go_simp; (try go_bits); (first | refine hK _ _ ?_ | (simp only [↓IntWalk.iteOmega]; go_simp; (try go_bits); refine hK _ _ ?_)); clear hK K)
          (refine Abs.step_store (T := fun w0 => setRow w0 w.heap.size Y) rfl rfl rfl (fun w0 hI hF hU => ?_) (fun w0 hI hU hJ => js hJ rfl _) (fun K hK => ?_); (· simp only [Abs.T_setF, Abs.T_addA, Abs.T_push, Abs.T_start]; exact exec_storeX rfl rfl rfl (kp hI f6) (by rw [size48, hYs]) (by rw [hYs]; rfl) hY1); (simp only [Act.put, List.setIfInBounds_toArray, List.set_cons_zero, List.set_cons_succ]; refine hK _ _ ?_; clear hK K))
          (refine Abs.step_pure rfl rfl (fun K hK => ?_); go_simp; (try go_bits); (first | refine hK _ _ ?_ | (simp only [↓IntWalk.iteOmega]; go_simp; (try go_bits); refine hK _ _ ?_)); clear hK K)
          intro w0 hI hF hx1 hx2
          clear hx1 hx2 hF
          simp only [Abs.T_setF, Abs.T_addA, Abs.T_push, Abs.T_start]
          have fE := kp hI f6
          have hBE := hide (bB hBe.out hI)
          go_wp2_with fail
          exact rq_no rfl rfl fE hYs hBE.out HN2.out
end Go.Proofs.YtlnonecibpjcoaaGreatDoor

namespace Go.Proofs.YtlnonecibpjcoaaGreatDoor
open Go.RowKit
attribute [local go_sem] Oper.semAt_some

set_option maxRecDepth 100000 in
set_option maxHeartbeats 16000000 in
theorem ref_Parse_retain (hd nm : ByteArray) (r : List ByteArray) (hh : hd = wRetain) (hno : ∀ j, 1 ≤ j → j < 8 → rWhatB j ≠ hd) (hb : NoBare hd) (a6 : (hd.toList == ([114, 101, 97, 100] : List UInt8)) = false) (a7 : (hd.toList == ([98, 117, 99, 107, 101, 116, 115] : List UInt8)) = false) (hn : nm.size ≤ 40) (s : ByteArray) (hs : s.size ≤ 1000000) (h : rW s.data.toList ⟨#[]⟩ [] = some (hd :: nm :: r)) (hl : r.length ≤ 1000000) (hz : ∀ x ∈ r, x.size ≤ 1000000) (w : World) :
    Calls Tryz.prog 11 #[.string s] w (RPq (match pInts r with | some xs => rNamed hd nm xs | none => none) w) := by
  have c0 := ref_Words s hs (w.alloc (.cells zCmd 48))
  rw [h] at c0
  obtain ⟨R, hR⟩ : ∃ R : Option Cm, R = (match pInts r with | some xs => rNamed hd nm xs | none => none) := ⟨_, rfl⟩
  rw [← hR]
  have HR := hide hR
  clear hR h
  have HH := hide hh
  clear hh
  have f1 := na w zCmd 48
  have hb1 := bA (b0 w) (.cells zCmd 48)
  obtain ⟨a1, a2, a3, a4, a5⟩ := hb
  go_enter Tryz.func11, Tryz.ntmps11
  go_wp2_with fail
  refine c0.mono ?_
  rintro e w2 ⟨v, rfl, hO, hb2⟩
  obtain ⟨A, c, rfl, hr⟩ := hO.cr
  have f2 := kp hb2 f1
  have HB := hide (bB hb1 hb2)
  have hzc := zCmd_size
  have h1 := zCmd_one
  have hcap := hr.cap
  have hin := hr.inV
  rw [strV_len] at hcap
  obtain ⟨ad, rfl, hal, hc⟩ := hr.inV (by simp [strV])
  have q0 := hc 0 (by simp [strV])
  have q1 := hc 1 (by simp [strV])
  simp only [strV, List.map_cons, List.getElem_cons_zero, List.getElem_cons_succ, addr0] at q0 q1
  have q1 : w2.cell? ⟨ad.block, ad.off + 1, none⟩ = some (.string nm) := by simpa [Addr.add] using q1
  rw [strV_len]
  have hin2 := inV_from (j := 2) hcap hin
  have e9 : (hd :: nm :: r).drop 2 = r := rfl
  rw [e9] at hin2
  obtain ⟨A1, hA1⟩ : ∃ A1, A1 = some (if c - 2 = 0 then ad else ad.add 2) := ⟨_, rfl⟩
  obtain ⟨c1, hc1⟩ : ∃ c1, c1 = c - 2 := ⟨_, rfl⟩
  rw [← hA1] at hin2
  have HA1 := hide hA1
  have HC1 := hide hc1
  clear hA1 hc1
  have e0 : (hd :: nm :: r).length = r.length + 2 := rfl
  rw [e0] at hcap ⊢
  have e2 : decide ((r.length : Int) + 2 < 2) = false := decide_eq_false (by omega)
  have e3 : decide ((40 : Int) < (nm.size : Int)) = false := decide_eq_false (by omega)
  have cN := ref_numbers A1 c1 r hl hz w2 hin2
  clear c0 hb1 hO hc hr hz e0 hin hin2
  go_wp2_with (refine wpList_sliceFrom rfl _ _ rfl ad (r.length + 2) c 2 rfl rfl (by omega) hcap A1 r.length c1 HA1.out rfl HC1.out ?_; simp only [Act.put, List.setIfInBounds_toArray, List.set_cons_zero, List.set_cons_succ])
  refine cN.mono ?_
  rintro e w3 hp3
  have hB := HB.out
  cases hp : pInts r with
  | none =>
    rw [hp] at hp3
    obtain ⟨rfl, hb3⟩ := hp3
    have f3 := kp hb3 f2
    have HB3 := hide (bB hB hb3)
    have HN : Hid (R = none) := hide (by rw [HR.out, hp])
    clear hp hB hb3 f2 cN q0 q1
    go_wp2_with (first | (refine wpList_buildW rfl _ _ rfl (.agg zCmd) #[] (by simp [Act.eval]) (build48_0 _) ?_; simp only [Act.put, List.setIfInBounds_toArray, List.set_cons_zero, List.set_cons_succ]) | (refine wpList_storeW rfl _ _ _ rfl w.heap.size 48 _ zCmd rfl rfl f3 (by rw [size48, hzc]) rfl h1 ?_; simp only [Act.put]))
    exact rq_no rfl rfl f3 zCmd_size HB3.out HN.out
  | some xs =>
    rw [hp] at hp3
    obtain ⟨v3, rfl, hO3, hb3⟩ := hp3
    have f3 := kp hb3 f2
    have HB3 := hide (bB hB hb3)
    obtain ⟨A3, c3, rfl, hr3⟩ := hO3.cr
    have HI3 := hide hr3.inV
    have HN : Hid (R = rNamed hd nm xs) := hide (by rw [HR.out, hp])
    rw [intV_len]
    clear hp hB hb3 f2 cN q0 q1 hO3 hr3 hal HR HB HA1 HC1 hcap a1 a2 a3 a4 a5 a6 a7 e2 e3
    have HN : Hid (R = rtR nm xs) := hide (by rw [HN.out, HH.out]; exact rtR_is nm xs)
    have HNO := hide hno
    clear hno
    go_wp2_with fail
    go_loopw [22] (fun v22 wr => ∃ (k : Nat), v22 = .int .i64 (k : Int) ∧ 1 ≤ k ∧ k ≤ 8 ∧ Hid (Below w3.heap.size w3 wr)) (fun v22 _ => 9 - (intOf v22).toNat)
    case atStart => exact ⟨1, rfl, by omega, by omega, hide (b0 _)⟩
    case round =>
      obtain ⟨k, rfl, hk1, hkk, HBr⟩ := hrel
      rcases Nat.lt_or_ge k 8 with hlt | hge
      · have e1 : decide ((k : Int) ≤ 7) = true := decide_eq_true (by omega)
        have cW := fun W => ref_What k (by omega) W
        have hx : rWhatB k ≠ hd := HNO.out k hk1 hlt
        have ex := eqF hx
        generalize rWhatB k = K at *
        clear hx
        go_wp2_with fail
        refine (cW _).mono ?_
        rintro e w5 ⟨rfl, hb5⟩
        have HB5 := hide (bB HBr.out hb5)
        go_wp2_with fail
        go_roundw
        case rel => exact ⟨k + 1, by go_num, by omega, by omega, HB5⟩
        case measure => simp [intOf]; omega
      · have e1 : decide ((k : Int) ≤ 7) = false := decide_eq_false (by omega)
        obtain ⟨w5, hw5⟩ : ∃ w5, w5 = wr := ⟨_, rfl⟩
        rw [← hw5] at HBr ⊢
        clear hw5
        have fB := kp HBr.out f3
        obtain ⟨q, hq⟩ : ∃ q, q = w5.heap.size := ⟨_, rfl⟩
        have hqw : w.heap.size < q := by rw [hq]; exact (rcell fB).2.2
        have Hq := hide hq
        have hBw := hide (bB HB3.out HBr.out)
        have HI5 := hide (HI3.out.below HBr.out)
        clear HNO HBr f3 HI3 hq

        have bc : (hd.toList == ([99, 114, 101, 97, 116, 101] : List UInt8)) = false := litNe _ (by rw [HH.out]; decide)
        have bd : (hd.toList == ([100, 114, 111, 112] : List UInt8)) = false := litNe _ (by rw [HH.out]; decide)
        have ba : (hd.toList == ([97, 112, 112, 101, 110, 100] : List UInt8)) = false := litNe _ (by rw [HH.out]; decide)
        have br : (hd.toList == ([114, 101, 116, 97, 105, 110] : List UInt8)) = true := litEq _ (by rw [HH.out]; rfl)
        clear HH
        by_cases hx : xs.length = 1
        · match xs, hx with
          | [a], _ =>
            have HN2 : Hid (R = some { ok := 1, mkd := 4, mn := nm, mf := a }) := hide (HN.out.trans rfl)
            obtain ⟨ad3, rfl, hal3, hc3⟩ := HI5.out (by simp [intV])
            have p0 := hc3 0 (by simp [intV])
            simp only [intV, List.map_cons, List.getElem_cons_zero, List.getElem_cons_succ, addr0] at p0
            simp only [List.length_cons, List.length_nil]
            clear hc3 HI5 HN
            go_wp2_with (first
              | (refine wpList_storeW rfl _ _ _ rfl w5.heap.size 24 _ #[.int .i64 0, .string nm, .int .i64 0, .int .i64 0, .int .i64 0, .slice none 0 0] rfl rfl (na _ _ _) size24 rfl (by simp [Value.oneCell']) ?_; simp only [Act.put]; generalize hT6 : setRow _ _ _ = w6; obtain ⟨hx6, g6⟩ := fin_x (b0 _) (na w5 _ 24) hT6; have f6 := kx hx6 (kp (bA (b0 _) _) fB) (by have := Hq.out; omega); have HB6 := hide (bX (bA (b0 w5) _) hx6 (Nat.le_refl _)); rw [← Hq.out] at g6 ⊢; clear hT6 hx6)
              | (refine wpList_storeI rfl 3 _ _ rfl q 0 24 _ .i64 4 rfl rfl g6 (by simp) (fun w => Tryz.sizeOf3 w) ?_; generalize hT7 : setRow _ _ _ = w7; obtain ⟨hx7, g7⟩ := fin_x (b0 _) g6 hT7; simp only [List.setIfInBounds_toArray, List.set_cons_zero, List.set_cons_succ] at g7; have f7 := kx hx7 f6 (by omega); have HB7 := hide (bX HB6.out hx7 (by have := Hq.out; omega)); have p0_7 := (HB7.out.cell (p := ad3) hal3).trans p0; clear hT7 hx7)
              | (refine wpList_storeI rfl 2 _ _ rfl q 3 24 _ .i64 a rfl rfl g7 (by simp) (fun w => Tryz.sizeOf2 w) ?_; generalize hT8 : setRow _ _ _ = w8; obtain ⟨hx8, g8⟩ := fin_x (b0 _) g7 hT8; simp only [List.setIfInBounds_toArray, List.set_cons_zero, List.set_cons_succ] at g8; have f8 := kx hx8 f7 (by omega); have HB8 := hide (bX HB7.out hx8 (by have := Hq.out; omega)); clear hT8 hx8))
            have bO := build29_m (4) nm (0) (a) (0) none (0) (0)
            obtain ⟨O, hO⟩ : ∃ O, O = OpV.cs ⟨1, 4, nm, 0, a, 0, none, 0, 0, 0, ⟨#[]⟩, 0, 0, 0, 0, ⟨#[]⟩, 0, 0⟩ := ⟨_, rfl⟩
            obtain ⟨Y, hY⟩ : ∃ Y, Y = cmdCs 1 ⟨1, 4, nm, 0, a, 0, none, 0, 0, 0, ⟨#[]⟩, 0, 0, 0, 0, ⟨#[]⟩, 0, 0⟩ 0 none 0 0 := ⟨_, rfl⟩
            have bY := build48_op ⟨1, 4, nm, 0, a, 0, none, 0, 0, 0, ⟨#[]⟩, 0, 0, 0, 0, ⟨#[]⟩, 0, 0⟩
            have hYs : Y.size = 19 := by rw [hY]; rfl
            have hY1 : Y.all (·.oneCell') = true := by rw [hY]; exact cmd_one _ _ _ _ _ _
            have HC := hide (show ∀ W, CmdIs w.heap.size W (.agg Y) { ok := 1, mkd := 4, mn := nm, mf := a } from by rw [hY]; exact fun W => ⟨none, 0, none, 0, rfl, RS.nil _, RS.nil _⟩)
            rw [← hO] at bO bY
            rw [← hY] at bY
            clear hO hY
            have hBe := hide (bB hBw.out HB8.out)
            refine Abs.wp_region_abs (Abs.cls _ (fun k => k = w.heap.size)) [0, 1, 2, 3, 4, 5, 6, 7] (by kernel_rfl) (by kernel_rfl) (Below.refl _ _).drew ?_
            (refine Abs.step_load (v := .agg #[.int .i64 4, .string nm, .int .i64 0, .int .i64 a, .int .i64 0, .slice none 0 0]) rfl rfl (by kernel_rfl) rfl (fun w0 hI => ?_) (fun K hK => ?_); (· have hf := kp hI g8; exact exec_loadX rfl rfl hf _ rfl Tryz.underlying24 size24); (simp only [Act.put, List.setIfInBounds_toArray, List.set_cons_zero, List.set_cons_succ]; refine hK _ _ ?_; clear hK K))
            (refine Abs.step_pure rfl rfl (fun K hK => ⟨(.agg O), fun w0 => exec_buildX rfl #[(0, .int .i64 1), (1, .agg #[.int .i64 4, .string nm, .int .i64 0, .int .i64 a, .int .i64 0, .slice none 0 0])] (by simp [Act.eval]) (bO _), ?_⟩); (simp only [Act.put, List.setIfInBounds_toArray, List.set_cons_zero, List.set_cons_succ]; refine hK _ _ ?_; clear hK K))
            (refine Abs.step_pure rfl rfl (fun K hK => ⟨(.agg Y), fun w0 => exec_buildX rfl #[(0, .int .i64 1), (1, .agg O)] (by simp [Act.eval]) (bY _), ?_⟩); (simp only [Act.put, List.setIfInBounds_toArray, List.set_cons_zero, List.set_cons_succ]; refine hK _ _ ?_; clear hK K))
            (refine Abs.step_pure rfl rfl (fun K hK => ?_); go_simp; (try go_bits); (first | refine hK _ _ ?_ | (simp only [↓IntWalk.iteOmega]; go_simp; (try go_bits); refine hK _ _ ?_)); clear hK K)
            (refine Abs.step_late (v := ?_) rfl rfl (fun w0 hI => ?_) (fun K hK => ?_); rotate_left; (· have z0 := (rcell (late_old hI (g8) (by have := Hq.out; omega))).1; go_simp; rfl); (simp only [Act.put, List.setIfInBounds_toArray, List.set_cons_zero, List.set_cons_succ]; refine hK _ _ ?_; clear hK K))
            (refine Abs.step_pure rfl rfl (fun K hK => ?_); go_simp; (try go_bits); (first | refine hK _ _ ?_ | (simp only [↓IntWalk.iteOmega]; go_simp; (try go_bits); refine hK _ _ ?_)); clear hK K)
            (refine Abs.step_store (T := fun w0 => setRow w0 w.heap.size Y) rfl rfl rfl (fun w0 hI hF hU => ?_) (fun w0 hI hU hJ => js hJ rfl _) (fun K hK => ?_); (· simp only [Abs.T_setF, Abs.T_addA, Abs.T_push, Abs.T_start]; exact exec_storeX rfl rfl rfl (kp hI f8) (by rw [size48, hYs]) (by rw [hYs]; rfl) hY1); (simp only [Act.put, List.setIfInBounds_toArray, List.set_cons_zero, List.set_cons_succ]; refine hK _ _ ?_; clear hK K))
            (refine Abs.step_pure rfl rfl (fun K hK => ?_); go_simp; (try go_bits); (first | refine hK _ _ ?_ | (simp only [↓IntWalk.iteOmega]; go_simp; (try go_bits); refine hK _ _ ?_)); clear hK K)
            intro w0 hI hF hx1 hx2
            clear hx1 hx2 hF
            simp only [Abs.T_setF, Abs.T_addA, Abs.T_push, Abs.T_start]
            have fE := kp hI f8
            have hBE := hide (bB hBe.out hI)
            go_wp2_with fail
            exact rq_yes rfl rfl fE hYs hBE.out (HC.out _) HN2.out
        · have HN2 : Hid (R = none) := hide (by
            rw [HN.out]
            match xs, hx with
            | [], _ => rfl
            | _ :: _ :: _, _ => rfl)
          have e5 : ((xs.length : Int) == 1) = false := beq_eq_false_iff_ne.2 (by omega)
          have e7 : decide ((xs.length : Int) = 1) = false := decide_eq_false (by omega)
          clear HN HI5
          go_wp2_with (first
            | (refine wpList_storeW rfl _ _ _ rfl w5.heap.size 24 _ #[.int .i64 0, .string nm, .int .i64 0, .int .i64 0, .int .i64 0, .slice none 0 0] rfl rfl (na _ _ _) size24 rfl (by simp [Value.oneCell']) ?_; simp only [Act.put]; generalize hT6 : setRow _ _ _ = w6; obtain ⟨hx6, g6⟩ := fin_x (b0 _) (na w5 _ 24) hT6; have f6 := kx hx6 (kp (bA (b0 _) _) fB) (by have := Hq.out; omega); have HB6 := hide (bX (bA (b0 w5) _) hx6 (Nat.le_refl _)); rw [← Hq.out] at g6 ⊢; clear hT6 hx6))
          have bO := build29_m (0) nm (0) (0) (0) none (0) (0)
          obtain ⟨O, hO⟩ : ∃ O, O = OpV.cs ⟨1, 0, nm, 0, 0, 0, none, 0, 0, 0, ⟨#[]⟩, 0, 0, 0, 0, ⟨#[]⟩, 0, 0⟩ := ⟨_, rfl⟩
          obtain ⟨Y, hY⟩ : ∃ Y, Y = cmdCs 1 ⟨1, 0, nm, 0, 0, 0, none, 0, 0, 0, ⟨#[]⟩, 0, 0, 0, 0, ⟨#[]⟩, 0, 0⟩ 0 none 0 0 := ⟨_, rfl⟩
          have bY := build48_op ⟨1, 0, nm, 0, 0, 0, none, 0, 0, 0, ⟨#[]⟩, 0, 0, 0, 0, ⟨#[]⟩, 0, 0⟩
          have hYs : Y.size = 19 := by rw [hY]; rfl
          have hY1 : Y.all (·.oneCell') = true := by rw [hY]; exact cmd_one _ _ _ _ _ _
          rw [← hO] at bO bY
          rw [← hY] at bY
          clear hO hY
          have hBe := hide (bB hBw.out HB6.out)
          refine Abs.wp_region_abs (Abs.cls _ (fun k => k = w.heap.size)) [0, 1, 2, 3, 4, 5, 6, 7] (by kernel_rfl) (by kernel_rfl) (Below.refl _ _).drew ?_
          (refine Abs.step_load (v := .agg #[.int .i64 0, .string nm, .int .i64 0, .int .i64 0, .int .i64 0, .slice none 0 0]) rfl rfl (by kernel_rfl) rfl (fun w0 hI => ?_) (fun K hK => ?_); (· have hf := kp hI g6; exact exec_loadX rfl rfl hf _ rfl Tryz.underlying24 size24); (simp only [Act.put, List.setIfInBounds_toArray, List.set_cons_zero, List.set_cons_succ]; refine hK _ _ ?_; clear hK K))
          (refine Abs.step_pure rfl rfl (fun K hK => ⟨(.agg O), fun w0 => exec_buildX rfl #[(0, .int .i64 1), (1, .agg #[.int .i64 0, .string nm, .int .i64 0, .int .i64 0, .int .i64 0, .slice none 0 0])] (by simp [Act.eval]) (bO _), ?_⟩); (simp only [Act.put, List.setIfInBounds_toArray, List.set_cons_zero, List.set_cons_succ]; refine hK _ _ ?_; clear hK K))
          (refine Abs.step_pure rfl rfl (fun K hK => ⟨(.agg Y), fun w0 => exec_buildX rfl #[(0, .int .i64 1), (1, .agg O)] (by simp [Act.eval]) (bY _), ?_⟩); (simp only [Act.put, List.setIfInBounds_toArray, List.set_cons_zero, List.set_cons_succ]; refine hK _ _ ?_; clear hK K))
          (refine Abs.step_pure rfl rfl (fun K hK => ?_); go_simp; (try go_bits); (first | refine hK _ _ ?_ | (simp only [↓IntWalk.iteOmega]; go_simp; (try go_bits); refine hK _ _ ?_)); clear hK K)
          (refine Abs.step_late (v := ?_) rfl rfl (fun w0 hI => ?_) (fun K hK => ?_); rotate_left; (· have z0 := (rcell (late_old hI (g6) (by have := Hq.out; omega))).1; go_simp; rfl); (simp only [Act.put, List.setIfInBounds_toArray, List.set_cons_zero, List.set_cons_succ]; refine hK _ _ ?_; clear hK K))
          (refine Abs.step_pure rfl rfl (fun K hK => ?_); go_simp; (try go_bits); (first | refine hK _ _ ?_ | (simp only [↓IntWalk.iteOmega]; go_simp; (try go_bits); refine hK _ _ ?_)); clear hK K)
          (refine Abs.step_store (T := fun w0 => setRow w0 w.heap.size Y) rfl rfl rfl (fun w0 hI hF hU => ?_) (fun w0 hI hU hJ => js hJ rfl _) (fun K hK => ?_); (· simp only [Abs.T_setF, Abs.T_addA, Abs.T_push, Abs.T_start]; exact exec_storeX rfl rfl rfl (kp hI f6) (by rw [size48, hYs]) (by rw [hYs]; rfl) hY1); (simp only [Act.put, List.setIfInBounds_toArray, List.set_cons_zero, List.set_cons_succ]; refine hK _ _ ?_; clear hK K))
          (refine Abs.step_pure rfl rfl (fun K hK => ?_); go_simp; (try go_bits); (first | refine hK _ _ ?_ | (simp only [↓IntWalk.iteOmega]; go_simp; (try go_bits); refine hK _ _ ?_)); clear hK K)
          intro w0 hI hF hx1 hx2
          clear hx1 hx2 hF
          simp only [Abs.T_setF, Abs.T_addA, Abs.T_push, Abs.T_start]
          have fE := kp hI f6
          have hBE := hide (bB hBe.out hI)
          go_wp2_with fail
          exact rq_no rfl rfl fE hYs hBE.out HN2.out
end Go.Proofs.YtlnonecibpjcoaaGreatDoor
