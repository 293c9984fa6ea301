/- The document's answer for the console at this program: points are appended. The document's answer for the console at this program: no such word. -/
import Derived.Test.YtlnonecibpjcoaaGreatDoorPe
set_option linter.unusedSimpArgs false
set_option linter.unnecessarySimpa false
set_option linter.unusedVariables false
set_option linter.unusedSectionVars false
namespace Go.Proofs.YtlnonecibpjcoaaGreatDoor
open Go.RowKit
attribute [local go_sem] Oper.semAt_some

set_option maxRecDepth 100000 in
set_option maxHeartbeats 16000000 in
theorem ref_Parse_append (hd nm : ByteArray) (r : List ByteArray) (hh : hd = wAppend) (hno : ∀ j, 1 ≤ j → j < 8 → rWhatB j ≠ hd) (hb : NoBare hd) (a6 : (hd.toList == ([114, 101, 97, 100] : List UInt8)) = false) (a7 : (hd.toList == ([98, 117, 99, 107, 101, 116, 115] : List UInt8)) = false) (hn : nm.size ≤ 40) (s : ByteArray) (hs : s.size ≤ 1000000) (h : rW s.data.toList ⟨#[]⟩ [] = some (hd :: nm :: r)) (hl : r.length ≤ 1000000) (hz : ∀ x ∈ r, x.size ≤ 1000000) (w : World) :
    Calls Tryz.prog 11 #[.string s] w (RPq (match pInts r with | some xs => rNamed hd nm xs | none => none) w) := by
  have c0 := ref_Words s hs (w.alloc (.cells zCmd 48))
  rw [h] at c0
  obtain ⟨R, hR⟩ : ∃ R : Option Cm, R = (match pInts r with | some xs => rNamed hd nm xs | none => none) := ⟨_, rfl⟩
  rw [← hR]
  have HR := hide hR
  clear hR h
  have HH := hide hh
  clear hh
  have f1 := na w zCmd 48
  have hb1 := bA (b0 w) (.cells zCmd 48)
  obtain ⟨a1, a2, a3, a4, a5⟩ := hb
  go_enter Tryz.func11, Tryz.ntmps11
  go_wp2_with fail
  refine c0.mono ?_
  rintro e w2 ⟨v, rfl, hO, hb2⟩
  obtain ⟨A, c, rfl, hr⟩ := hO.cr
  have f2 := kp hb2 f1
  have HB := hide (bB hb1 hb2)
  have hzc := zCmd_size
  have h1 := zCmd_one
  have hcap := hr.cap
  have hin := hr.inV
  rw [strV_len] at hcap
  obtain ⟨ad, rfl, hal, hc⟩ := hr.inV (by simp [strV])
  have q0 := hc 0 (by simp [strV])
  have q1 := hc 1 (by simp [strV])
  simp only [strV, List.map_cons, List.getElem_cons_zero, List.getElem_cons_succ, addr0] at q0 q1
  have q1 : w2.cell? ⟨ad.block, ad.off + 1, none⟩ = some (.string nm) := by simpa [Addr.add] using q1
  rw [strV_len]
  have hin2 := inV_from (j := 2) hcap hin
  have e9 : (hd :: nm :: r).drop 2 = r := rfl
  rw [e9] at hin2
  obtain ⟨A1, hA1⟩ : ∃ A1, A1 = some (if c - 2 = 0 then ad else ad.add 2) := ⟨_, rfl⟩
  obtain ⟨c1, hc1⟩ : ∃ c1, c1 = c - 2 := ⟨_, rfl⟩
  rw [← hA1] at hin2
  have HA1 := hide hA1
  have HC1 := hide hc1
  clear hA1 hc1
  have e0 : (hd :: nm :: r).length = r.length + 2 := rfl
  rw [e0] at hcap ⊢
  have e2 : decide ((r.length : Int) + 2 < 2) = false := decide_eq_false (by omega)
  have e3 : decide ((40 : Int) < (nm.size : Int)) = false := decide_eq_false (by omega)
  have cN := ref_numbers A1 c1 r hl hz w2 hin2
  clear c0 hb1 hO hc hr hz e0 hin hin2
  go_wp2_with (refine wpList_sliceFrom rfl _ _ rfl ad (r.length + 2) c 2 rfl rfl (by omega) hcap A1 r.length c1 HA1.out rfl HC1.out ?_; simp only [Act.put, List.setIfInBounds_toArray, List.set_cons_zero, List.set_cons_succ])
  refine cN.mono ?_
  rintro e w3 hp3
  have hB := HB.out
  cases hp : pInts r with
  | none =>
    rw [hp] at hp3
    obtain ⟨rfl, hb3⟩ := hp3
    have f3 := kp hb3 f2
    have HB3 := hide (bB hB hb3)
    have HN : Hid (R = none) := hide (by rw [HR.out, hp])
    clear hp hB hb3 f2 cN q0 q1
    go_wp2_with (first | (refine wpList_buildW rfl _ _ rfl (.agg zCmd) #[] (by simp [Act.eval]) (build48_0 _) ?_; simp only [Act.put, List.setIfInBounds_toArray, List.set_cons_zero, List.set_cons_succ]) | (refine wpList_storeW rfl _ _ _ rfl w.heap.size 48 _ zCmd rfl rfl f3 (by rw [size48, hzc]) rfl h1 ?_; simp only [Act.put]))
    exact rq_no rfl rfl f3 zCmd_size HB3.out HN.out
  | some xs =>
    rw [hp] at hp3
    obtain ⟨v3, rfl, hO3, hb3⟩ := hp3
    have f3 := kp hb3 f2
    have HB3 := hide (bB hB hb3)
    obtain ⟨A3, c3, rfl, hr3⟩ := hO3.cr
    have HI3 := hide hr3.inV
    have HN : Hid (R = rNamed hd nm xs) := hide (by rw [HR.out, hp])
    rw [intV_len]
    clear hp hB hb3 f2 cN q0 q1 hO3 hr3 hal HR HB HA1 HC1 hcap a1 a2 a3 a4 a5 a6 a7 e2 e3
    have HN : Hid (R = if 2 ≤ xs.length ∧ xs.length ≤ 40 ∧ xs.length % 2 = 0 then some { ok := 1, mkd := 3, mn := nm, pts := pairs xs } else none) := hide (by rw [HN.out, HH.out]; rfl)
    have HNO := hide hno
    clear hno
    go_wp2_with fail
    go_loopw [22] (fun v22 wr => ∃ (k : Nat), v22 = .int .i64 (k : Int) ∧ 1 ≤ k ∧ k ≤ 8 ∧ Hid (Below w3.heap.size w3 wr)) (fun v22 _ => 9 - (intOf v22).toNat)
    case atStart => exact ⟨1, rfl, by omega, by omega, hide (b0 _)⟩
    case round =>
      obtain ⟨k, rfl, hk1, hkk, HBr⟩ := hrel
      rcases Nat.lt_or_ge k 8 with hlt | hge
      · have e1 : decide ((k : Int) ≤ 7) = true := decide_eq_true (by omega)
        have cW := fun W => ref_What k (by omega) W
        have hx : rWhatB k ≠ hd := HNO.out k hk1 hlt
        have ex := eqF hx
        generalize rWhatB k = K at *
        clear hx
        go_wp2_with fail
        refine (cW _).mono ?_
        rintro e w5 ⟨rfl, hb5⟩
        have HB5 := hide (bB HBr.out hb5)
        go_wp2_with fail
        go_roundw
        case rel => exact ⟨k + 1, by go_num, by omega, by omega, HB5⟩
        case measure => simp [intOf]; omega
      · have e1 : decide ((k : Int) ≤ 7) = false := decide_eq_false (by omega)
        obtain ⟨w5, hw5⟩ : ∃ w5, w5 = wr := ⟨_, rfl⟩
        rw [← hw5] at HBr ⊢
        clear hw5
        have fB := kp HBr.out f3
        obtain ⟨q, hq⟩ : ∃ q, q = w5.heap.size := ⟨_, rfl⟩
        have hqw : w.heap.size < q := by rw [hq]; exact (rcell fB).2.2
        have Hq := hide hq
        have hBw := hide (bB HB3.out HBr.out)
        have HI5 := hide (HI3.out.below HBr.out)
        clear HNO HBr f3 HI3 hq

        have bc : (hd.toList == ([99, 114, 101, 97, 116, 101] : List UInt8)) = false := litNe _ (by rw [HH.out]; decide)
        have bd : (hd.toList == ([100, 114, 111, 112] : List UInt8)) = false := litNe _ (by rw [HH.out]; decide)
        have ba : (hd.toList == ([97, 112, 112, 101, 110, 100] : List UInt8)) = true := litEq _ (by rw [HH.out]; rfl)
        have br : (hd.toList == ([114, 101, 116, 97, 105, 110] : List UInt8)) = false := litNe _ (by rw [HH.out]; decide)
        clear HH
        by_cases h2 : 2 ≤ xs.length
        · have n2 : decide ((2 : Int) ≤ (xs.length : Int)) = true := decide_eq_true (by omega)
          by_cases h40 : xs.length ≤ 40
          · have n40 : decide ((xs.length : Int) ≤ 40) = true := decide_eq_true (by omega)
            by_cases hev : xs.length % 2 = 0
            · have nev : ((xs.length : Int).tmod 2 == 0) = true := by rw [beq_iff_eq, Int.tmod_eq_emod_of_nonneg (by omega)]; omega
              have HN2 : Hid (R = some { ok := 1, mkd := 3, mn := nm, pts := pairs xs }) := hide (by rw [HN.out, if_pos ⟨h2, h40, hev⟩])
              clear HN
              go_wp2_with (first
                | (refine wpList_storeW rfl _ _ _ rfl w5.heap.size 24 _ #[.int .i64 0, .string nm, .int .i64 0, .int .i64 0, .int .i64 0, .slice none 0 0] rfl rfl (na _ _ _) size24 rfl (by simp [Value.oneCell']) ?_; simp only [Act.put]; generalize hT6 : setRow _ _ _ = w6; obtain ⟨hx6, g6⟩ := fin_x (b0 _) (na w5 _ 24) hT6; have f6 := kx hx6 (kp (bA (b0 _) _) fB) (by have := Hq.out; omega); have HB6 := hide (bX (bA (b0 w5) _) hx6 (Nat.le_refl _)); rw [← Hq.out] at g6 ⊢; clear hT6 hx6)
                | (refine wpList_storeI rfl 3 _ _ rfl q 0 24 _ .i64 3 rfl rfl g6 (by simp) (fun w => Tryz.sizeOf3 w) ?_; generalize hT7 : setRow _ _ _ = w7; obtain ⟨hx7, g7⟩ := fin_x (b0 _) g6 hT7; simp only [List.setIfInBounds_toArray, List.set_cons_zero, List.set_cons_succ] at g7; have f7 := kx hx7 f6 (by omega); have HB7 := hide (bX HB6.out hx7 (by have := Hq.out; omega)); clear hT7 hx7))
              go_loopw [25] (fun v25 wr => ∃ (i m : Nat) (PA : Option Addr) (pc : Nat), v25 = .int .i64 (i : Int) ∧ i ≤ xs.length ∧ Hid (i = 2 * m) ∧ (wr.heap[q]? = some (.cells #[.int .i64 3, .string nm, .int .i64 0, .int .i64 0, .int .i64 0, .slice PA m pc] 24 (0, 0))) ∧ Hid (OwnK 99 2 (q + 1) wr (.slice PA m pc) m (ptsV ((pairs xs).take m))) ∧ Hid (m = 0 → (.slice PA m pc : Value) = .slice none 0 0) ∧ Hid (Below w5.heap.size w5 wr)) (fun v25 _ => xs.length - (intOf v25).toNat)
              case atStart => exact ⟨0, 0, none, 0, rfl, by omega, hide rfl, g7, hide (OwnK.nil _ _), hide (fun _ => rfl), HB7⟩
              case round =>
                clear g6 f6 HB6 g7 f7 HB7 n2 n40 nev
                obtain ⟨i, m, PA, pc, rfl, hi, him, gq, HO, HZ, HBr⟩ := hrel
                by_cases hlt : i < xs.length
                · have e1 : decide ((i : Int) < (xs.length : Int)) = true := decide_eq_true (by omega)
                  have hm1 : 2 * m + 1 < xs.length := by have := him.out; omega
                  obtain ⟨ad3, rfl, -, -⟩ := HI5.out (by rw [intV_len]; omega)
                  obtain ⟨x, hx⟩ : ∃ x, x = xs[2 * m] := ⟨_, rfl⟩
                  obtain ⟨y, hy⟩ : ∃ y, y = xs[2 * m + 1] := ⟨_, rfl⟩
                  have hpg := pairs_get xs m hm1
                  rw [← hx, ← hy] at hpg
                  have HX := hide (ptsV_take hpg)
                  have QX : ∀ w0, Below wr.heap.size wr w0 → w0.cell? (ad3.add i) = some (.int .i64 x) := fun w0 hI => by
                    obtain ⟨ad', e, -, hc⟩ := (HI5.out.below (bB HBr.out hI)) (by rw [intV_len]; omega)
                    obtain rfl := Option.some.inj e
                    have := hc i (by rw [intV_len]; omega)
                    have hi2 := him.out
                    subst hi2
                    rw [this, hx]; simp [intV]
                  have QY : ∀ w0, Below wr.heap.size wr w0 → w0.cell? { block := ad3.block, off := ad3.off + (i + 1) } = some (.int .i64 y) := fun w0 hI => by
                    have ea : ({ block := ad3.block, off := ad3.off + (i + 1) } : Addr) = ad3.add (i + 1) := by unfold Addr.add; rw [if_neg (by omega)]
                    rw [ea]
                    obtain ⟨ad', e, -, hc⟩ := (HI5.out.below (bB HBr.out hI)) (by rw [intV_len]; omega)
                    obtain rfl := Option.some.inj e
                    have hi2 := him.out
                    have := hc (i + 1) (by rw [intV_len]; omega)
                    subst hi2
                    rw [this, hy]; simp [intV]
                  have hT1 : ((i : Int) + 1).toNat = i + 1 := by omega
                  have hi1 : i + 1 < xs.length := by have := him.out; omega
                  clear hx hy hpg hm1
                  obtain ⟨z1, z2, z3⟩ := rcell gq
                  go_wp2_with fail
                  refine Abs.wp_region_tail (Abs.cls0 _) [0, 1, 2, 3, 4, 5, 6, 7, 8, 9, 10, 11, 12] 13 (by kernel_rfl) (by kernel_rfl) (Below.refl _ _).drew ?_
                  (refine Abs.step_pure rfl rfl (fun K hK => ?_); go_simp; (try go_bits); (first | refine hK _ _ ?_ | (simp only [↓IntWalk.iteOmega]; go_simp; (try go_bits); refine hK _ _ ?_)); clear hK K)
                  (refine Abs.step_load (v := ?_) rfl rfl (by kernel_rfl) rfl (fun w0 hI => ?_) (fun K hK => ?_); rotate_left; (· have z0 := (rcell (kp hI (gq))).1; go_simp; rfl); (simp only [Act.put, List.setIfInBounds_toArray, List.set_cons_zero, List.set_cons_succ]; refine hK _ _ ?_; clear hK K))
                  (refine Abs.step_pure rfl rfl (fun K hK => ?_); go_simp; (try go_bits); (first | refine hK _ _ ?_ | (simp only [↓IntWalk.iteOmega]; go_simp; (try go_bits); refine hK _ _ ?_)); clear hK K)
                  (refine Abs.step_pure rfl rfl (fun K hK => ?_); go_simp; (try go_bits); (first | refine hK _ _ ?_ | (simp only [↓IntWalk.iteOmega]; go_simp; (try go_bits); refine hK _ _ ?_)); clear hK K)
                  (refine Abs.step_pure rfl rfl (fun K hK => ?_); go_simp; (try go_bits); (first | refine hK _ _ ?_ | (simp only [↓IntWalk.iteOmega]; go_simp; (try go_bits); refine hK _ _ ?_)); clear hK K)
                  (refine Abs.step_load (v := ?_) rfl rfl (by kernel_rfl) rfl (fun w0 hI => ?_) (fun K hK => ?_); rotate_left; (· have z0 := QX w0 hI; go_simp; rfl); (simp only [Act.put, List.setIfInBounds_toArray, List.set_cons_zero, List.set_cons_succ]; refine hK _ _ ?_; clear hK K))
                  (refine Abs.step_pure rfl rfl (fun K hK => ?_); go_simp; (try go_bits); (first | refine hK _ _ ?_ | (simp only [↓IntWalk.iteOmega]; go_simp; (try go_bits); refine hK _ _ ?_)); clear hK K)
                  (refine Abs.step_pure rfl rfl (fun K hK => ?_); go_simp; (try go_bits); (first | refine hK _ _ ?_ | (simp only [↓IntWalk.iteOmega]; go_simp; (try go_bits); refine hK _ _ ?_)); clear hK K)
                  (refine Abs.step_pure rfl rfl (fun K hK => ?_); go_simp; (try go_bits); (first | refine hK _ _ ?_ | (simp only [↓IntWalk.iteOmega]; go_simp; (try go_bits); refine hK _ _ ?_)); clear hK K)
                  (refine Abs.step_pure rfl rfl (fun K hK => ?_); go_simp; (try go_bits); (first | refine hK _ _ ?_ | (simp only [↓IntWalk.iteOmega]; go_simp; (try go_bits); refine hK _ _ ?_)); clear hK K)
                  (refine Abs.step_load (v := ?_) rfl rfl (by kernel_rfl) rfl (fun w0 hI => ?_) (fun K hK => ?_); rotate_left; (· have z0 := QY w0 hI; go_simp; rfl); (simp only [Act.put, List.setIfInBounds_toArray, List.set_cons_zero, List.set_cons_succ]; refine hK _ _ ?_; clear hK K))
                  (refine Abs.step_pure rfl rfl (fun K hK => ?_); go_simp; (try go_bits); (first | refine hK _ _ ?_ | (simp only [↓IntWalk.iteOmega]; go_simp; (try go_bits); refine hK _ _ ?_)); clear hK K)
                  (refine Abs.step_new (f := fun g => .slice (some ⟨g, 0, none⟩) 1 1) (obj := .cells #[.int .i64 x, .int .i64 y] 99) rfl rfl rfl rfl (fun w0 => ?_) (fun K hK g_x hv_x hu_x => ?_); (· go_simp; try rfl); (simp only [Act.put, List.setIfInBounds_toArray, List.set_cons_zero, List.set_cons_succ]; refine hK _ _ ?_; clear hK K))
                  intro w0 hI hF hx1 hx2
                  have hlit := (hF 12).2 rfl
                  clear hx1 hx2 hF
                  simp only [Abs.T_setF, Abs.T_addA, Abs.T_push, Abs.T_start, List.drop_succ_cons, List.drop_zero]
                  have g5 := kp hI gq
                  have HO5 := hide (HO.out.lift hI)
                  have HK5 := hide (InK.at (k := 2) hlit rfl)
                  have HB5 := hide (bB HBr.out hI)
                  have hs5 : q + 1 ≤ w0.heap.size := (rcell g5).2.2
                  clear hlit hI z1 z2 z3 hT1 hi1
                  have hml : m ≤ 1000 := by have := him.out; omega
                  go_wp2_with (first
                    | (refine wpList_pushK rfl _ _ _ rfl 16 Tryz.underlying22 pt_info rfl (by decide) (by decide) (q + 1) _ m 1 (ptsV ((pairs xs).take m)) [.int .i64 x, .int .i64 y] (some ⟨g_x, 0, none⟩) 1 rfl rfl HO5.out HK5.out (by simp [Value.oneCell']) (by omega) hs5 ?_; intro v6 w6 hO6 hlow6 hsz6; obtain ⟨A6, c6, rfl, -⟩ := hO6.cr; have hb6 := hlow6 w0 (Below.refl _ _); have g6 := (hb6.block q (by omega)).trans g5; have HB6 := hide (HB5.out.trans (hb6.mono (by have := Hq.out; omega))); have HO6 := hide hO6; clear hlow6 hO6 hb6)
                    | (refine wpList_storeS rfl 22 99 Tryz.underlying22 _ _ rfl q 5 24 _ A6 (m + 1) c6 rfl rfl g6 (by simp) (fun w => Tryz.sizeOf22 w) ?_; generalize hT7 : setRow w6 _ _ = w7; obtain ⟨hx7, g7⟩ := fin_x (b0 _) g6 hT7; have HB7 := hide (bX HB6.out hx7 (by have := Hq.out; omega)); have HO7 := hide (HO6.out.excP hx7 (by omega)); clear hT7 hx7))
                  go_roundw
                  case rel => exact ⟨i + 2, m + 1, A6, c6, by go_num, by have := him.out; omega, hide (by have := him.out; omega), by simpa using g7, hide (by rw [HX.out]; exact HO7.out), hide (fun h => by omega), HB7⟩
                  case measure => simp [intOf]; omega
                · obtain rfl : i = xs.length := by omega
                  have e1 : decide ((xs.length : Int) < (xs.length : Int)) = false := decide_eq_false (by omega)
                  obtain rfl : m = (pairs xs).length := by rw [pairs_len]; have := him.out; omega
                  rw [List.take_length] at HO
                  obtain ⟨PA', pc', e, hk3⟩ := HO.out.crS HZ.out
                  injection e with e4 e5 e6
                  subst e4 e6
                  have f9 := kp HBr.out fB
                  have g9 := gq
                  have HB9 := HBr
                  clear gq HBr e5 e1
                  have e1 : decide ((xs.length : Int) < (xs.length : Int)) = false := decide_eq_false (by omega)
                  go_wp2_with fail
                  have bO := build29_m (3) nm (0) (0) (0) (PA) ((pairs xs).length) (pc)
                  obtain ⟨O, hO⟩ : ∃ O, O = OpV.cs ⟨1, 3, nm, 0, 0, 0, PA, (pairs xs).length, pc, 0, ⟨#[]⟩, 0, 0, 0, 0, ⟨#[]⟩, 0, 0⟩ := ⟨_, rfl⟩
                  obtain ⟨Y, hY⟩ : ∃ Y, Y = cmdCs 1 ⟨1, 3, nm, 0, 0, 0, PA, (pairs xs).length, pc, 0, ⟨#[]⟩, 0, 0, 0, 0, ⟨#[]⟩, 0, 0⟩ 0 none 0 0 := ⟨_, rfl⟩
                  have bY := build48_op ⟨1, 3, nm, 0, 0, 0, PA, (pairs xs).length, pc, 0, ⟨#[]⟩, 0, 0, 0, 0, ⟨#[]⟩, 0, 0⟩
                  have hYs : Y.size = 19 := by rw [hY]; rfl
                  have hY1 : Y.all (·.oneCell') = true := by rw [hY]; exact cmd_one _ _ _ _ _ _
                  have HC := hide (show ∀ W, Below wr.heap.size wr W → CmdIs w.heap.size W (.agg Y) { ok := 1, mkd := 3, mn := nm, pts := pairs xs } from by rw [hY]; exact fun W hW => ⟨PA, pc, none, 0, rfl, (hk3.below hW).mono (by omega), RS.nil _⟩)
                  rw [← hO] at bO bY
                  rw [← hY] at bY
                  clear hO hY
                  have hBe := hide (bB hBw.out HB9.out)
                  refine Abs.wp_region_abs (Abs.cls _ (fun k => k = w.heap.size)) [0, 1, 2, 3, 4, 5, 6, 7] (by kernel_rfl) (by kernel_rfl) (Below.refl _ _).drew ?_
                  (refine Abs.step_load (v := .agg #[.int .i64 3, .string nm, .int .i64 0, .int .i64 0, .int .i64 0, .slice PA (pairs xs).length pc]) rfl rfl (by kernel_rfl) rfl (fun w0 hI => ?_) (fun K hK => ?_); (· have hf := kp hI g9; exact exec_loadX rfl rfl hf _ rfl Tryz.underlying24 size24); (simp only [Act.put, List.setIfInBounds_toArray, List.set_cons_zero, List.set_cons_succ]; refine hK _ _ ?_; clear hK K))
                  (refine Abs.step_pure rfl rfl (fun K hK => ⟨(.agg O), fun w0 => exec_buildX rfl #[(0, .int .i64 1), (1, .agg #[.int .i64 3, .string nm, .int .i64 0, .int .i64 0, .int .i64 0, .slice PA (pairs xs).length pc])] (by simp [Act.eval]) (bO _), ?_⟩); (simp only [Act.put, List.setIfInBounds_toArray, List.set_cons_zero, List.set_cons_succ]; refine hK _ _ ?_; clear hK K))
                  (refine Abs.step_pure rfl rfl (fun K hK => ⟨(.agg Y), fun w0 => exec_buildX rfl #[(0, .int .i64 1), (1, .agg O)] (by simp [Act.eval]) (bY _), ?_⟩); (simp only [Act.put, List.setIfInBounds_toArray, List.set_cons_zero, List.set_cons_succ]; refine hK _ _ ?_; clear hK K))
                  (refine Abs.step_pure rfl rfl (fun K hK => ?_); go_simp; (try go_bits); (first | refine hK _ _ ?_ | (simp only [↓IntWalk.iteOmega]; go_simp; (try go_bits); refine hK _ _ ?_)); clear hK K)
                  (refine Abs.step_late (v := ?_) rfl rfl (fun w0 hI => ?_) (fun K hK => ?_); rotate_left; (· have z0 := (rcell (late_old hI (g9) (by have := Hq.out; omega))).1; go_simp; rfl); (simp only [Act.put, List.setIfInBounds_toArray, List.set_cons_zero, List.set_cons_succ]; refine hK _ _ ?_; clear hK K))
                  (refine Abs.step_pure rfl rfl (fun K hK => ?_); go_simp; (try go_bits); (first | refine hK _ _ ?_ | (simp only [↓IntWalk.iteOmega]; go_simp; (try go_bits); refine hK _ _ ?_)); clear hK K)
                  (refine Abs.step_store (T := fun w0 => setRow w0 w.heap.size Y) rfl rfl rfl (fun w0 hI hF hU => ?_) (fun w0 hI hU hJ => js hJ rfl _) (fun K hK => ?_); (· simp only [Abs.T_setF, Abs.T_addA, Abs.T_push, Abs.T_start]; exact exec_storeX rfl rfl rfl (kp hI f9) (by rw [size48, hYs]) (by rw [hYs]; rfl) hY1); (simp only [Act.put, List.setIfInBounds_toArray, List.set_cons_zero, List.set_cons_succ]; refine hK _ _ ?_; clear hK K))
                  (refine Abs.step_pure rfl rfl (fun K hK => ?_); go_simp; (try go_bits); (first | refine hK _ _ ?_ | (simp only [↓IntWalk.iteOmega]; go_simp; (try go_bits); refine hK _ _ ?_)); clear hK K)
                  intro w0 hI hF hx1 hx2
                  clear hx1 hx2 hF
                  simp only [Abs.T_setF, Abs.T_addA, Abs.T_push, Abs.T_start]
                  have fE := kp hI f9
                  have hBE := hide (bB hBe.out hI)
                  go_wp2_with fail
                  exact rq_yes rfl rfl fE hYs hBE.out (HC.out _ hI) HN2.out
            · have nev : ((xs.length : Int).tmod 2 == 0) = false := by rw [beq_eq_false_iff_ne, Int.tmod_eq_emod_of_nonneg (by omega)]; omega
              have HN2 : Hid (R = none) := hide (by rw [HN.out, if_neg (by omega)])
              clear HN HI5
              go_wp2_with (first
                | (refine wpList_storeW rfl _ _ _ rfl w5.heap.size 24 _ #[.int .i64 0, .string nm, .int .i64 0, .int .i64 0, .int .i64 0, .slice none 0 0] rfl rfl (na _ _ _) size24 rfl (by simp [Value.oneCell']) ?_; simp only [Act.put]; generalize hT6 : setRow _ _ _ = w6; obtain ⟨hx6, g6⟩ := fin_x (b0 _) (na w5 _ 24) hT6; have f6 := kx hx6 (kp (bA (b0 _) _) fB) (by have := Hq.out; omega); have HB6 := hide (bX (bA (b0 w5) _) hx6 (Nat.le_refl _)); rw [← Hq.out] at g6 ⊢; clear hT6 hx6))
              have bO := build29_m (0) nm (0) (0) (0) none (0) (0)
              obtain ⟨O, hO⟩ : ∃ O, O = OpV.cs ⟨1, 0, nm, 0, 0, 0, none, 0, 0, 0, ⟨#[]⟩, 0, 0, 0, 0, ⟨#[]⟩, 0, 0⟩ := ⟨_, rfl⟩
              obtain ⟨Y, hY⟩ : ∃ Y, Y = cmdCs 1 ⟨1, 0, nm, 0, 0, 0, none, 0, 0, 0, ⟨#[]⟩, 0, 0, 0, 0, ⟨#[]⟩, 0, 0⟩ 0 none 0 0 := ⟨_, rfl⟩
              have bY := build48_op ⟨1, 0, nm, 0, 0, 0, none, 0, 0, 0, ⟨#[]⟩, 0, 0, 0, 0, ⟨#[]⟩, 0, 0⟩
              have hYs : Y.size = 19 := by rw [hY]; rfl
              have hY1 : Y.all (·.oneCell') = true := by rw [hY]; exact cmd_one _ _ _ _ _ _
              rw [← hO] at bO bY
              rw [← hY] at bY
              clear hO hY
              have hBe := hide (bB hBw.out HB6.out)
              refine Abs.wp_region_abs (Abs.cls _ (fun k => k = w.heap.size)) [0, 1, 2, 3, 4, 5, 6, 7] (by kernel_rfl) (by kernel_rfl) (Below.refl _ _).drew ?_
              (refine Abs.step_load (v := .agg #[.int .i64 0, .string nm, .int .i64 0, .int .i64 0, .int .i64 0, .slice none 0 0]) rfl rfl (by kernel_rfl) rfl (fun w0 hI => ?_) (fun K hK => ?_); (· have hf := kp hI g6; exact exec_loadX rfl rfl hf _ rfl Tryz.underlying24 size24); (simp only [Act.put, List.setIfInBounds_toArray, List.set_cons_zero, List.set_cons_succ]; refine hK _ _ ?_; clear hK K))
              (refine Abs.step_pure rfl rfl (fun K hK => ⟨(.agg O), fun w0 => exec_buildX rfl #[(0, .int .i64 1), (1, .agg #[.int .i64 0, .string nm, .int .i64 0, .int .i64 0, .int .i64 0, .slice none 0 0])] (by simp [Act.eval]) (bO _), ?_⟩); (simp only [Act.put, List.setIfInBounds_toArray, List.set_cons_zero, List.set_cons_succ]; refine hK _ _ ?_; clear hK K))
              (refine Abs.step_pure rfl rfl (fun K hK => ⟨(.agg Y), fun w0 => exec_buildX rfl #[(0, .int .i64 1), (1, .agg O)] (by simp [Act.eval]) (bY _), ?_⟩); (simp only [Act.put, List.setIfInBounds_toArray, List.set_cons_zero, List.set_cons_succ]; refine hK _ _ ?_; clear hK K))
              (refine Abs.step_pure rfl rfl (fun K hK => ?_); go_simp; (try go_bits); (first | refine hK _ _ ?_ | (simp only [↓IntWalk.iteOmega]; go_simp; (try go_bits); refine hK _ _ ?_)); clear hK K)
              (refine Abs.step_late (v := ?_) rfl rfl (fun w0 hI => ?_) (fun K hK => ?_); rotate_left; (· have z0 := (rcell (late_old hI (g6) (by have := Hq.out; omega))).1; go_simp; rfl); (simp only [Act.put, List.setIfInBounds_toArray, List.set_cons_zero, List.set_cons_succ]; refine hK _ _ ?_; clear hK K))
              (refine Abs.step_pure rfl rfl (fun K hK => ?_); go_simp; (try go_bits); (first | refine hK _ _ ?_ | (simp only [↓IntWalk.iteOmega]; go_simp; (try go_bits); refine hK _ _ ?_)); clear hK K)
              (refine Abs.step_store (T := fun w0 => setRow w0 w.heap.size Y) rfl rfl rfl (fun w0 hI hF hU => ?_) (fun w0 hI hU hJ => js hJ rfl _) (fun K hK => ?_); (· simp only [Abs.T_setF, Abs.T_addA, Abs.T_push, Abs.T_start]; exact exec_storeX rfl rfl rfl (kp hI f6) (by rw [size48, hYs]) (by rw [hYs]; rfl) hY1); (simp only [Act.put, List.setIfInBounds_toArray, List.set_cons_zero, List.set_cons_succ]; refine hK _ _ ?_; clear hK K))
              (refine Abs.step_pure rfl rfl (fun K hK => ?_); go_simp; (try go_bits); (first | refine hK _ _ ?_ | (simp only [↓IntWalk.iteOmega]; go_simp; (try go_bits); refine hK _ _ ?_)); clear hK K)
              intro w0 hI hF hx1 hx2
              clear hx1 hx2 hF
              simp only [Abs.T_setF, Abs.T_addA, Abs.T_push, Abs.T_start]
              have fE := kp hI f6
              have hBE := hide (bB hBe.out hI)
              go_wp2_with fail
              exact rq_no rfl rfl fE hYs hBE.out HN2.out
          · have n40 : decide ((xs.length : Int) ≤ 40) = false := decide_eq_false (by omega)
            have HN2 : Hid (R = none) := hide (by rw [HN.out, if_neg (by omega)])
            clear HN HI5
            go_wp2_with (first
              | (refine wpList_storeW rfl _ _ _ rfl w5.heap.size 24 _ #[.int .i64 0, .string nm, .int .i64 0, .int .i64 0, .int .i64 0, .slice none 0 0] rfl rfl (na _ _ _) size24 rfl (by simp [Value.oneCell']) ?_; simp only [Act.put]; generalize hT6 : setRow _ _ _ = w6; obtain ⟨hx6, g6⟩ := fin_x (b0 _) (na w5 _ 24) hT6; have f6 := kx hx6 (kp (bA (b0 _) _) fB) (by have := Hq.out; omega); have HB6 := hide (bX (bA (b0 w5) _) hx6 (Nat.le_refl _)); rw [← Hq.out] at g6 ⊢; clear hT6 hx6))
            have bO := build29_m (0) nm (0) (0) (0) none (0) (0)
            obtain ⟨O, hO⟩ : ∃ O, O = OpV.cs ⟨1, 0, nm, 0, 0, 0, none, 0, 0, 0, ⟨#[]⟩, 0, 0, 0, 0, ⟨#[]⟩, 0, 0⟩ := ⟨_, rfl⟩
            obtain ⟨Y, hY⟩ : ∃ Y, Y = cmdCs 1 ⟨1, 0, nm, 0, 0, 0, none, 0, 0, 0, ⟨#[]⟩, 0, 0, 0, 0, ⟨#[]⟩, 0, 0⟩ 0 none 0 0 := ⟨_, rfl⟩
            have bY := build48_op ⟨1, 0, nm, 0, 0, 0, none, 0, 0, 0, ⟨#[]⟩, 0, 0, 0, 0, ⟨#[]⟩, 0, 0⟩
            have hYs : Y.size = 19 := by rw [hY]; rfl
            have hY1 : Y.all (·.oneCell') = true := by rw [hY]; exact cmd_one _ _ _ _ _ _
            rw [← hO] at bO bY
            rw [← hY] at bY
            clear hO hY
            have hBe := hide (bB hBw.out HB6.out)
            refine Abs.wp_region_abs (Abs.cls _ (fun k => k = w.heap.size)) [0, 1, 2, 3, 4, 5, 6, 7] (by kernel_rfl) (by kernel_rfl) (Below.refl _ _).drew ?_
            (refine Abs.step_load (v := .agg #[.int .i64 0, .string nm, .int .i64 0, .int .i64 0, .int .i64 0, .slice none 0 0]) rfl rfl (by kernel_rfl) rfl (fun w0 hI => ?_) (fun K hK => ?_); (· have hf := kp hI g6; exact exec_loadX rfl rfl hf _ rfl Tryz.underlying24 size24); (simp only [Act.put, List.setIfInBounds_toArray, List.set_cons_zero, List.set_cons_succ]; refine hK _ _ ?_; clear hK K))
            (refine Abs.step_pure rfl rfl (fun K hK => ⟨(.agg O), fun w0 => exec_buildX rfl #[(0, .int .i64 1), (1, .agg #[.int .i64 0, .string nm, .int .i64 0, .int .i64 0, .int .i64 0, .slice none 0 0])] (by simp [Act.eval]) (bO _), ?_⟩); (simp only [Act.put, List.setIfInBounds_toArray, List.set_cons_zero, List.set_cons_succ]; refine hK _ _ ?_; clear hK K))
            (refine Abs.step_pure rfl rfl (fun K hK => ⟨(.agg Y), fun w0 => exec_buildX rfl #[(0, .int .i64 1), (1, .agg O)] (by simp [Act.eval]) (bY _), ?_⟩); (simp only [Act.put, List.setIfInBounds_toArray, List.set_cons_zero, List.set_cons_succ]; refine hK _ _ ?_; clear hK K))
            (refine Abs.step_pure rfl rfl (fun K hK => ?_); go_simp; (try go_bits); (first | refine hK _ _ ?_ | (simp only [↓IntWalk.iteOmega]; go_simp; (try go_bits); refine hK _ _ ?_)); clear hK K)
            (refine Abs.step_late (v := ?_) rfl rfl (fun w0 hI => ?_) (fun K hK => ?_); rotate_left; (· have z0 := (rcell (late_old hI (g6) (by have := Hq.out; omega))).1; go_simp; rfl); (simp only [Act.put, List.setIfInBounds_toArray, List.set_cons_zero, List.set_cons_succ]; refine hK _ _ ?_; clear hK K))
            (refine Abs.step_pure rfl rfl (fun K hK => ?_); go_simp; (try go_bits); (first | refine hK _ _ ?_ | (simp only [↓IntWalk.iteOmega]; go_simp; (try go_bits); refine hK _ _ ?_)); clear hK K)
            (refine Abs.step_store (T := fun w0 => setRow w0 w.heap.size Y) rfl rfl rfl (fun w0 hI hF hU => ?_) (fun w0 hI hU hJ => js hJ rfl _) (fun K hK => ?_); (· simp only [Abs.T_setF, Abs.T_addA, Abs.T_push, Abs.T_start]; exact exec_storeX rfl rfl rfl (kp hI f6) (by rw [size48, hYs]) (by rw [hYs]; rfl) hY1); (simp only [Act.put, List.setIfInBounds_toArray, List.set_cons_zero, List.set_cons_succ]; refine hK _ _ ?_; clear hK K))
            (refine Abs.step_pure rfl rfl (fun K hK => ?_); go_simp; (try go_bits); (first | refine hK _ _ ?_ | (simp only [↓IntWalk.iteOmega]; go_simp; (try go_bits); refine hK _ _ ?_)); clear hK K)
            intro w0 hI hF hx1 hx2
            clear hx1 hx2 hF
            simp only [Abs.T_setF, Abs.T_addA, Abs.T_push, Abs.T_start]
            have fE := kp hI f6
            have hBE := hide (bB hBe.out hI)
            go_wp2_with fail
            exact rq_no rfl rfl fE hYs hBE.out HN2.out
        · have n2 : decide ((2 : Int) ≤ (xs.length : Int)) = false := decide_eq_false (by omega)
          have HN2 : Hid (R = none) := hide (by rw [HN.out, if_neg (by omega)])
          clear HN HI5
          go_wp2_with (first
            | (refine wpList_storeW rfl _ _ _ rfl w5.heap.size 24 _ #[.int .i64 0, .string nm, .int .i64 0, .int .i64 0, .int .i64 0, .slice none 0 0] rfl rfl (na _ _ _) size24 rfl (by simp [Value.oneCell']) ?_; simp only [Act.put]; generalize hT6 : setRow _ _ _ = w6; obtain ⟨hx6, g6⟩ := fin_x (b0 _) (na w5 _ 24) hT6; have f6 := kx hx6 (kp (bA (b0 _) _) fB) (by have := Hq.out; omega); have HB6 := hide (bX (bA (b0 w5) _) hx6 (Nat.le_refl _)); rw [← Hq.out] at g6 ⊢; clear hT6 hx6))
          have bO := build29_m (0) nm (0) (0) (0) none (0) (0)
          obtain ⟨O, hO⟩ : ∃ O, O = OpV.cs ⟨1, 0, nm, 0, 0, 0, none, 0, 0, 0, ⟨#[]⟩, 0, 0, 0, 0, ⟨#[]⟩, 0, 0⟩ := ⟨_, rfl⟩
          obtain ⟨Y, hY⟩ : ∃ Y, Y = cmdCs 1 ⟨1, 0, nm, 0, 0, 0, none, 0, 0, 0, ⟨#[]⟩, 0, 0, 0, 0, ⟨#[]⟩, 0, 0⟩ 0 none 0 0 := ⟨_, rfl⟩
          have bY := build48_op ⟨1, 0, nm, 0, 0, 0, none, 0, 0, 0, ⟨#[]⟩, 0, 0, 0, 0, ⟨#[]⟩, 0, 0⟩
          have hYs : Y.size = 19 := by rw [hY]; rfl
          have hY1 : Y.all (·.oneCell') = true := by rw [hY]; exact cmd_one _ _ _ _ _ _
          rw [← hO] at bO bY
          rw [← hY] at bY
          clear hO hY
          have hBe := hide (bB hBw.out HB6.out)
          refine Abs.wp_region_abs (Abs.cls _ (fun k => k = w.heap.size)) [0, 1, 2, 3, 4, 5, 6, 7] (by kernel_rfl) (by kernel_rfl) (Below.refl _ _).drew ?_
          (refine Abs.step_load (v := .agg #[.int .i64 0, .string nm, .int .i64 0, .int .i64 0, .int .i64 0, .slice none 0 0]) rfl rfl (by kernel_rfl) rfl (fun w0 hI => ?_) (fun K hK => ?_); (· have hf := kp hI g6; exact exec_loadX rfl rfl hf _ rfl Tryz.underlying24 size24); (simp only [Act.put, List.setIfInBounds_toArray, List.set_cons_zero, List.set_cons_succ]; refine hK _ _ ?_; clear hK K))
          (refine Abs.step_pure rfl rfl (fun K hK => ⟨(.agg O), fun w0 => exec_buildX rfl #[(0, .int .i64 1), (1, .agg #[.int .i64 0, .string nm, .int .i64 0, .int .i64 0, .int .i64 0, .slice none 0 0])] (by simp [Act.eval]) (bO _), ?_⟩); (simp only [Act.put, List.setIfInBounds_toArray, List.set_cons_zero, List.set_cons_succ]; refine hK _ _ ?_; clear hK K))
          (refine Abs.step_pure rfl rfl (fun K hK => ⟨(.agg Y), fun w0 => exec_buildX rfl #[(0, .int .i64 1), (1, .agg O)] (by simp [Act.eval]) (bY _), ?_⟩); (simp only [Act.put, List.setIfInBounds_toArray, List.set_cons_zero, List.set_cons_succ]; refine hK _ _ ?_; clear hK K))
          (refine Abs.step_pure rfl rfl (fun K hK => ?_); go_simp; (try go_bits); (first | refine hK _ _ ?_ | (simp only [↓IntWalk.iteOmega]; go_simp; (try go_bits); refine hK _ _ ?_)); clear hK K)
          (refine Abs.step_late (v := ?_) rfl rfl (fun w0 hI => ?_) (fun K hK => ?_); rotate_left; (· have z0 := (rcell (late_old hI (g6) (by have := Hq.out; omega))).1; go_simp; rfl); (simp only [Act.put, List.setIfInBounds_toArray, List.set_cons_zero, List.set_cons_succ]; refine hK _ _ ?_; clear hK K))
          (refine Abs.step_pure rfl rfl (fun K hK => ?_); go_simp; (try go_bits); (first | refine hK _ _ ?_ | (simp only [↓IntWalk.iteOmega]; go_simp; (try go_bits); refine hK _ _ ?_)); clear hK K)
          (refine Abs.step_store (T := fun w0 => setRow w0 w.heap.size Y) rfl rfl rfl (fun w0 hI hF hU => ?_) (fun w0 hI hU hJ => js hJ rfl _) (fun K hK => ?_); (· simp only [Abs.T_setF, Abs.T_addA, Abs.T_push, Abs.T_start]; exact exec_storeX rfl rfl rfl (kp hI f6) (by rw [size48, hYs]) (by rw [hYs]; rfl) hY1); (simp only [Act.put, List.setIfInBounds_toArray, List.set_cons_zero, List.set_cons_succ]; refine hK _ _ ?_; clear hK K))
          (refine Abs.step_pure rfl rfl (fun K hK => ?_); go_simp; (try go_bits); (first | refine hK _ _ ?_ | (simp only [↓IntWalk.iteOmega]; go_simp; (try go_bits); refine hK _ _ ?_)); clear hK K)
          intro w0 hI hF hx1 hx2
          clear hx1 hx2 hF
          simp only [Abs.T_setF, Abs.T_addA, Abs.T_push, Abs.T_start]
          have fE := kp hI f6
          have hBE := hide (bB hBe.out hI)
          go_wp2_with fail
          exact rq_no rfl rfl fE hYs hBE.out HN2.out
end Go.Proofs.YtlnonecibpjcoaaGreatDoor

namespace Go.Proofs.YtlnonecibpjcoaaGreatDoor
open Go.RowKit
attribute [local go_sem] Oper.semAt_some

set_option maxRecDepth 100000 in
set_option maxHeartbeats 16000000 in
theorem ref_Parse_other (hd nm : ByteArray) (r : List ByteArray) (hc0 : hd ≠ wCreate) (hd0 : hd ≠ wDrop) (ha0 : hd ≠ wAppend) (hr0 : hd ≠ wRetain) (hno : ∀ j, 1 ≤ j → j < 8 → rWhatB j ≠ hd) (hb : NoBare hd) (a6 : (hd.toList == ([114, 101, 97, 100] : List UInt8)) = false) (a7 : (hd.toList == ([98, 117, 99, 107, 101, 116, 115] : List UInt8)) = false) (hn : nm.size ≤ 40) (s : ByteArray) (hs : s.size ≤ 1000000) (h : rW s.data.toList ⟨#[]⟩ [] = some (hd :: nm :: r)) (hl : r.length ≤ 1000000) (hz : ∀ x ∈ r, x.size ≤ 1000000) (w : World) :
    Calls Tryz.prog 11 #[.string s] w (RPq (match pInts r with | some xs => rNamed hd nm xs | none => none) w) := by
  have c0 := ref_Words s hs (w.alloc (.cells zCmd 48))
  rw [h] at c0
  obtain ⟨R, hR⟩ : ∃ R : Option Cm, R = (match pInts r with | some xs => rNamed hd nm xs | none => none) := ⟨_, rfl⟩
  rw [← hR]
  have HR := hide hR
  clear hR h
  have f1 := na w zCmd 48
  have hb1 := bA (b0 w) (.cells zCmd 48)
  obtain ⟨a1, a2, a3, a4, a5⟩ := hb
  go_enter Tryz.func11, Tryz.ntmps11
  go_wp2_with fail
  refine c0.mono ?_
  rintro e w2 ⟨v, rfl, hO, hb2⟩
  obtain ⟨A, c, rfl, hr⟩ := hO.cr
  have f2 := kp hb2 f1
  have HB := hide (bB hb1 hb2)
  have hzc := zCmd_size
  have h1 := zCmd_one
  have hcap := hr.cap
  have hin := hr.inV
  rw [strV_len] at hcap
  obtain ⟨ad, rfl, hal, hc⟩ := hr.inV (by simp [strV])
  have q0 := hc 0 (by simp [strV])
  have q1 := hc 1 (by simp [strV])
  simp only [strV, List.map_cons, List.getElem_cons_zero, List.getElem_cons_succ, addr0] at q0 q1
  have q1 : w2.cell? ⟨ad.block, ad.off + 1, none⟩ = some (.string nm) := by simpa [Addr.add] using q1
  rw [strV_len]
  have hin2 := inV_from (j := 2) hcap hin
  have e9 : (hd :: nm :: r).drop 2 = r := rfl
  rw [e9] at hin2
  obtain ⟨A1, hA1⟩ : ∃ A1, A1 = some (if c - 2 = 0 then ad else ad.add 2) := ⟨_, rfl⟩
  obtain ⟨c1, hc1⟩ : ∃ c1, c1 = c - 2 := ⟨_, rfl⟩
  rw [← hA1] at hin2
  have HA1 := hide hA1
  have HC1 := hide hc1
  clear hA1 hc1
  have e0 : (hd :: nm :: r).length = r.length + 2 := rfl
  rw [e0] at hcap ⊢
  have e2 : decide ((r.length : Int) + 2 < 2) = false := decide_eq_false (by omega)
  have e3 : decide ((40 : Int) < (nm.size : Int)) = false := decide_eq_false (by omega)
  have cN := ref_numbers A1 c1 r hl hz w2 hin2
  clear c0 hb1 hO hc hr hz e0 hin hin2
  go_wp2_with (refine wpList_sliceFrom rfl _ _ rfl ad (r.length + 2) c 2 rfl rfl (by omega) hcap A1 r.length c1 HA1.out rfl HC1.out ?_; simp only [Act.put, List.setIfInBounds_toArray, List.set_cons_zero, List.set_cons_succ])
  refine cN.mono ?_
  rintro e w3 hp3
  have hB := HB.out
  cases hp : pInts r with
  | none =>
    rw [hp] at hp3
    obtain ⟨rfl, hb3⟩ := hp3
    have f3 := kp hb3 f2
    have HB3 := hide (bB hB hb3)
    have HN : Hid (R = none) := hide (by rw [HR.out, hp])
    clear hp hB hb3 f2 cN q0 q1
    go_wp2_with (first | (refine wpList_buildW rfl _ _ rfl (.agg zCmd) #[] (by simp [Act.eval]) (build48_0 _) ?_; simp only [Act.put, List.setIfInBounds_toArray, List.set_cons_zero, List.set_cons_succ]) | (refine wpList_storeW rfl _ _ _ rfl w.heap.size 48 _ zCmd rfl rfl f3 (by rw [size48, hzc]) rfl h1 ?_; simp only [Act.put]))
    exact rq_no rfl rfl f3 zCmd_size HB3.out HN.out
  | some xs =>
    rw [hp] at hp3
    obtain ⟨v3, rfl, hO3, hb3⟩ := hp3
    have f3 := kp hb3 f2
    have HB3 := hide (bB hB hb3)
    obtain ⟨A3, c3, rfl, hr3⟩ := hO3.cr
    have HI3 := hide hr3.inV
    have HN : Hid (R = rNamed hd nm xs) := hide (by rw [HR.out, hp])
    rw [intV_len]
    clear hp hB hb3 f2 cN q0 q1 hO3 hr3 hal HR HB HA1 HC1 hcap a1 a2 a3 a4 a5 a6 a7 e2 e3
    have HN2 : Hid (R = none) := hide (by
      rw [HN.out]
      unfold rNamed
      rw [askK_none hno, if_neg (by omega), if_neg hc0, if_neg hd0, if_neg ha0, if_neg hr0])
    have HNO := hide hno
    clear hno
    go_wp2_with fail
    go_loopw [22] (fun v22 wr => ∃ (k : Nat), v22 = .int .i64 (k : Int) ∧ 1 ≤ k ∧ k ≤ 8 ∧ Hid (Below w3.heap.size w3 wr)) (fun v22 _ => 9 - (intOf v22).toNat)
    case atStart => exact ⟨1, rfl, by omega, by omega, hide (b0 _)⟩
    case round =>
      obtain ⟨k, rfl, hk1, hkk, HBr⟩ := hrel
      rcases Nat.lt_or_ge k 8 with hlt | hge
      · have e1 : decide ((k : Int) ≤ 7) = true := decide_eq_true (by omega)
        have cW := fun W => ref_What k (by omega) W
        have hx : rWhatB k ≠ hd := HNO.out k hk1 hlt
        have ex := eqF hx
        generalize rWhatB k = K at *
        clear hx
        go_wp2_with fail
        refine (cW _).mono ?_
        rintro e w5 ⟨rfl, hb5⟩
        have HB5 := hide (bB HBr.out hb5)
        go_wp2_with fail
        go_roundw
        case rel => exact ⟨k + 1, by go_num, by omega, by omega, HB5⟩
        case measure => simp [intOf]; omega
      · have e1 : decide ((k : Int) ≤ 7) = false := decide_eq_false (by omega)
        obtain ⟨w5, hw5⟩ : ∃ w5, w5 = wr := ⟨_, rfl⟩
        rw [← hw5] at HBr ⊢
        clear hw5
        have fB := kp HBr.out f3
        obtain ⟨q, hq⟩ : ∃ q, q = w5.heap.size := ⟨_, rfl⟩
        have hqw : w.heap.size < q := by rw [hq]; exact (rcell fB).2.2
        have Hq := hide hq
        have hBw := hide (bB HB3.out HBr.out)
        have HI5 := hide (HI3.out.below HBr.out)
        clear HNO HBr f3 HI3 hq

        have bc : (hd.toList == ([99, 114, 101, 97, 116, 101] : List UInt8)) = false := litNe _ hc0
        have bd : (hd.toList == ([100, 114, 111, 112] : List UInt8)) = false := litNe _ hd0
        have ba : (hd.toList == ([97, 112, 112, 101, 110, 100] : List UInt8)) = false := litNe _ ha0
        have br : (hd.toList == ([114, 101, 116, 97, 105, 110] : List UInt8)) = false := litNe _ hr0
        clear hc0 hd0 ha0 hr0 HI5 HN
        go_wp2_with (first
          | (refine wpList_storeW rfl _ _ _ rfl w5.heap.size 24 _ #[.int .i64 0, .string nm, .int .i64 0, .int .i64 0, .int .i64 0, .slice none 0 0] rfl rfl (na _ _ _) size24 rfl (by simp [Value.oneCell']) ?_; simp only [Act.put]; generalize hT6 : setRow _ _ _ = w6; obtain ⟨hx6, g6⟩ := fin_x (b0 _) (na w5 _ 24) hT6; have f6 := kx hx6 (kp (bA (b0 _) _) fB) (by have := Hq.out; omega); have HB6 := hide (bX (bA (b0 w5) _) hx6 (Nat.le_refl _)); rw [← Hq.out] at g6 ⊢; clear hT6 hx6))
        have bO := build29_m (0) nm (0) (0) (0) none (0) (0)
        obtain ⟨O, hO⟩ : ∃ O, O = OpV.cs ⟨1, 0, nm, 0, 0, 0, none, 0, 0, 0, ⟨#[]⟩, 0, 0, 0, 0, ⟨#[]⟩, 0, 0⟩ := ⟨_, rfl⟩
        obtain ⟨Y, hY⟩ : ∃ Y, Y = cmdCs 1 ⟨1, 0, nm, 0, 0, 0, none, 0, 0, 0, ⟨#[]⟩, 0, 0, 0, 0, ⟨#[]⟩, 0, 0⟩ 0 none 0 0 := ⟨_, rfl⟩
        have bY := build48_op ⟨1, 0, nm, 0, 0, 0, none, 0, 0, 0, ⟨#[]⟩, 0, 0, 0, 0, ⟨#[]⟩, 0, 0⟩
        have hYs : Y.size = 19 := by rw [hY]; rfl
        have hY1 : Y.all (·.oneCell') = true := by rw [hY]; exact cmd_one _ _ _ _ _ _
        rw [← hO] at bO bY
        rw [← hY] at bY
        clear hO hY
        have hBe := hide (bB hBw.out HB6.out)
        refine Abs.wp_region_abs (Abs.cls _ (fun k => k = w.heap.size)) [0, 1, 2, 3, 4, 5, 6, 7] (by kernel_rfl) (by kernel_rfl) (Below.refl _ _).drew ?_
        (refine Abs.step_load (v := .agg #[.int .i64 0, .string nm, .int .i64 0, .int .i64 0, .int .i64 0, .slice none 0 0]) rfl rfl (by kernel_rfl) rfl (fun w0 hI => ?_) (fun K hK => ?_); (· have hf := kp hI g6; exact exec_loadX rfl rfl hf _ rfl Tryz.underlying24 size24); (simp only [Act.put, List.setIfInBounds_toArray, List.set_cons_zero, List.set_cons_succ]; refine hK _ _ ?_; clear hK K))
        (refine Abs.step_pure rfl rfl (fun K hK => ⟨(.agg O), fun w0 => exec_buildX rfl #[(0, .int .i64 1), (1, .agg #[.int .i64 0, .string nm, .int .i64 0, .int .i64 0, .int .i64 0, .slice none 0 0])] (by simp [Act.eval]) (bO _), ?_⟩); (simp only [Act.put, List.setIfInBounds_toArray, List.set_cons_zero, List.set_cons_succ]; refine hK _ _ ?_; clear hK K))
        (refine Abs.step_pure rfl rfl (fun K hK => ⟨(.agg Y), fun w0 => exec_buildX rfl #[(0, .int .i64 1), (1, .agg O)] (by simp [Act.eval]) (bY _), ?_⟩); (simp only [Act.put, List.setIfInBounds_toArray, List.set_cons_zero, List.set_cons_succ]; refine hK _ _ ?_; clear hK K))
        (refine Abs.step_pure rfl rfl (fun K hK => ?_); go_simp; (try go_bits); (first | refine hK _ _ ?_ | (simp only [↓IntWalk.iteOmega]; go_simp; (try go_bits); refine hK _ _ ?_)); clear hK K)
        (refine Abs.step_late (v := ?_) rfl rfl (fun w0 hI => ?_) (fun K hK => ?_); rotate_left; (· have z0 := (rcell (late_old hI (g6) (by have := Hq.out; omega))).1; go_simp; rfl); (simp only [Act.put, List.setIfInBounds_toArray, List.set_cons_zero, List.set_cons_succ]; refine hK _ _ ?_; clear hK K))
        (refine Abs.step_pure rfl rfl (fun K hK => ?_); go_simp; (try go_bits); (first | refine hK _ _ ?_ | (simp only [↓IntWalk.iteOmega]; go_simp; (try go_bits); refine hK _ _ ?_)); clear hK K)
        (refine Abs.step_store (T := fun w0 => setRow w0 w.heap.size Y) rfl rfl rfl (fun w0 hI hF hU => ?_) (fun w0 hI hU hJ => js hJ rfl _) (fun K hK => ?_); (· simp only [Abs.T_setF, Abs.T_addA, Abs.T_push, Abs.T_start]; exact exec_storeX rfl rfl rfl (kp hI f6) (by rw [size48, hYs]) (by rw [hYs]; rfl) hY1); (simp only [Act.put, List.setIfInBounds_toArray, List.set_cons_zero, List.set_cons_succ]; refine hK _ _ ?_; clear hK K))
        (refine Abs.step_pure rfl rfl (fun K hK => ?_); go_simp; (try go_bits); (first | refine hK _ _ ?_ | (simp only [↓IntWalk.iteOmega]; go_simp; (try go_bits); refine hK _ _ ?_)); clear hK K)
        intro w0 hI hF hx1 hx2
        clear hx1 hx2 hF
        simp only [Abs.T_setF, Abs.T_addA, Abs.T_push, Abs.T_start]
        have fE := kp hI f6
        have hBE := hide (bB hBe.out hI)
        go_wp2_with fail
        exact rq_no rfl rfl fE hYs hBE.out HN2.out
end Go.Proofs.YtlnonecibpjcoaaGreatDoor
