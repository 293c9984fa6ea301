/- yearbookref10.Right, Through at this program; slices.Equal of two rows of bands. -/
import Derived.Test.YtpimkigbdjfjoaaDoorLawA3
import Derived.Test.YtpimkigbdjfjoaaDoorEqualB
import Derived.Test.YtpimkigbdjfjoaaDoorPB
import Derived.Test.YtpimkigbdjfjoaaDoorP6
set_option linter.unusedSimpArgs false
set_option linter.unusedVariables false
namespace Go.Proofs.YtpimkigbdjfjoaaDoor
open Go.RowKit

theorem ref10_Right (A : Option Addr) (c : Nat) (l : List Bd) (w : World) (hR : BR w A c l) :
    Calls Tryd.prog 15 #[.slice A l.length c] w fun e w' => e = .returned (.bool (okB l)) ∧ Below w.heap.size w w' := by
  have c1 := ref8_Right A c l
  go_enter Tryd.func15, Tryd.ntmps15
  go_wp2_with fail
  refine (c1 _ hR).mono ?_
  rintro e w1 ⟨rfl, hb1⟩
  have hB1 := bB (b0 w) hb1
  go_wp2
  go_ret
  exact ⟨rfl, hB1⟩

theorem BR.inB {w : World} {A : Option Addr} {c : Nat} {l : List Bd} (h : BR w A c l) : InB w A l := fun h0 => by
  obtain ⟨g, o, cur, rfl, hg, hc⟩ := h.mem h0
  have hz := (rcell hg).1
  have hadd : ∀ j, (⟨g, o, none⟩ : Addr).add j = ⟨g, o + j, none⟩ := fun j => by unfold Addr.add; split <;> simp_all
  refine ⟨_, rfl, (rcell hg).2.2, fun i hi => ?_⟩
  obtain ⟨q1, q2, q3⟩ := hc i hi
  rw [hadd, hadd, hadd, hz, hz, hz]
  exact ⟨q1, q2, q3⟩

set_option maxRecDepth 100000 in
theorem equal_band_nil (A X : Option Addr) (c C : Nat) (w : World) : Calls Tryd.prog 16 #[.slice A 0 c, .slice X 0 C] w fun e w' => e = .returned (.bool true) ∧ Below w.heap.size w w' := by
  go_enter Tryd.func16, Tryd.ntmps16
  go_wp2_with fail
  go_loopw [13] (fun vi wr => vi = .int .i64 0 ∧ Below w.heap.size w wr) (fun _ _ => 0)
  case atStart => exact ⟨rfl, b0 w⟩
  case round =>
    obtain ⟨rfl, hb⟩ := hrel
    go_wp2
    go_ret
    exact ⟨rfl, hb⟩
theorem equal_two (A B : Option Addr) (c d : Nat) (ys : List Bd) (h1 : ys.length ≤ 260) (w : World) (hR : BR w A c ys) (hS : BR w B d ys) :
    Calls Tryd.prog 16 #[.slice A ys.length c, .slice B ys.length d] w fun e w' => e = .returned (.bool true) ∧ Below w.heap.size w w' := by
  by_cases h0 : 0 < ys.length
  · exact equal_band A B c d ys h0 h1 w hR hS.inB
  · rw [show ys.length = 0 by omega]
    exact equal_band_nil A B c d w

set_option maxRecDepth 100000 in
set_option maxHeartbeats 2000000 in
theorem ref10_Through (x y n d : Int) (hI : isB x y n d = true) (A : Option Addr) (c : Nat) (l : List Bd) (h : okB l = true) (E : Bool) (hE : Hid (thrB x y n d (bd l 0).t l = E)) (w : World) (hR : BR w A c l) :
    Calls Tryd.prog 20 #[.slice A l.length c, .agg #[.int .i64 x, .int .i64 y, .int .i64 n, .int .i64 d]] w fun e w' => e = .returned (.bool E) ∧ Below w.heap.size w w' := by
  obtain ⟨k0, k1, k2⟩ := okB_spec h
  obtain ⟨g, o, cur, rfl, hg, hc⟩ := hR.mem k0
  have hc' : ∀ i, i < l.length → cur[o + i * 3]? = some (.int .i64 (bd l i).t) ∧ cur[o + i * 3 + 1]? = some (.int .i64 (bd l i).lo) ∧ cur[o + i * 3 + 2]? = some (.int .i64 (bd l i).hi) := fun i hi => by
    have := hc i hi
    rw [bd_eq hi] at this
    exact this
  have he := (hc' 0 k0).1
  simp only [Nat.zero_mul, Nat.add_zero] at he
  obtain ⟨t1, t2, -⟩ := bd_rg k2 0 k0
  have htm : ∀ i, i < l.length → tmB ((bd l i).t - (bd l 0).t) = true := fun i hi => by
    have := bd_rg k2 i hi
    by_cases e : i = 0
    · subst e; exact tm_of (by omega) (by omega)
    · have := t_lt k2 0 i (by omega) hi
      exact tm_of (by omega) (by omega)
  generalize ht0 : (bd l 0).t = t0 at *
  have HC := hide hc'
  have K2 := hide k2
  have HM := hide htm
  clear hc hc' k2 hR h htm ht0
  go_enter Tryd.func20, Tryd.ntmps20
  obtain ⟨zg_a, zg_b, lg0⟩ := rcell hg
  go_wp2_with fail
  go_loopw [9] (fun vi wr => ∃ k : Nat, vi = .int .i64 k ∧ k ≤ l.length ∧ Hid (thrB x y n d t0 (l.take k) = true) ∧ wr.heap[g]? = some (.cells cur 37 (0, 0)) ∧ wr.heap[w.heap.size]? = some (.cells #[.int .i64 x, .int .i64 y, .int .i64 n, .int .i64 d] 31 (0, 0)) ∧ Below w.heap.size w wr) (fun vi _ => l.length - (intOf vi).toNat)
  case atStart => exact ⟨0, rfl, by omega, hide rfl, (ka (hg) (.cells #[.int .i64 x, .int .i64 y, .int .i64 n, .int .i64 d] 31)), (na w #[.int .i64 x, .int .i64 y, .int .i64 n, .int .i64 d] 31), (bA (b0 w) (.cells #[.int .i64 x, .int .i64 y, .int .i64 n, .int .i64 d] 31))⟩
  case round =>
    obtain ⟨k, rfl, hk, hT, j1, j2, hb⟩ := hrel
    by_cases hlt : k < l.length
    · obtain ⟨q1, q2, q3⟩ := HC.out k hlt
      obtain ⟨r1, r2, -, ⟨r3, r4⟩, r5, r6⟩ := bd_rg K2.out k hlt
      have HT := hide (thrB_take (A := x) (R := y) (N := n) (D := d) (t0 := t0) hlt)
      rw [bd_eq hlt] at HT
      have htk := HM.out k hlt
      generalize bd l k = b at *
      obtain ⟨bt, bl, bh⟩ := b
      simp only at q1 q2 q3 r1 r2 r3 r4 r5 r6 htk
      have cW := ref_WithinL x y n d (bt - t0) bl bh hI htk (by omega) (by omega) (by omega) (by omega)
      simp only at HT
      clear htk
      generalize winB x y n d (bt - t0) bl bh = wb at *
      obtain ⟨zg_a, zg_b, lg1⟩ := rcell j1
      obtain ⟨zo_a, zo_b, lo2⟩ := rcell j2
      go_wp2_with fail
      have f_g3 := (ka (j1) (.cells #[.int .i64 bt, .int .i64 bl, .int .i64 bh] 37))
      have f_o3 := (ka (j2) (.cells #[.int .i64 bt, .int .i64 bl, .int .i64 bh] 37))
      have f_b3 := (na wr #[.int .i64 bt, .int .i64 bl, .int .i64 bh] 37)
      have hB3 := (bA hb (.cells #[.int .i64 bt, .int .i64 bl, .int .i64 bh] 37))
      clear zg_a zg_b zo_a zo_b
      have lg3 := (rcell f_g3).2.2
      have lo3 := (rcell f_o3).2.2
      have lb3 := (rcell f_b3).2.2
      refine Abs.wp_region_abs (Abs.cls0 _) [0, 1, 2, 3, 4, 5, 6, 7, 8, 9, 10, 11, 12, 13] (by kernel_rfl) (by kernel_rfl) (Below.refl _ _).drew ?_
      repeat (first | (refine Abs.step_pure rfl rfl (fun K hK => ?_); go_simp; (try go_bits); (first | refine hK _ _ ?_ | (simp only [↓IntWalk.iteOmega]; go_simp; (try go_bits); refine hK _ _ ?_)); clear hK K) | (refine Abs.step_load (v := ?_) rfl rfl (by kernel_rfl) rfl (fun w0 hI => ?_) (fun K hK => ?_); rotate_left; (· have z0 := (rcell (kp hI (f_g3))).1; have z1 := (rcell (kp hI (f_o3))).1; have z2 := (rcell (kp hI (f_b3))).1; go_simp; rfl); (simp only [Act.put, List.setIfInBounds_toArray, List.set_cons_zero, List.set_cons_succ]; refine hK _ _ ?_; clear hK K)) | (refine Abs.step_skip rfl rfl (fun K hK => ?_); (simp only [Act.put, List.setIfInBounds_toArray, List.set_cons_zero, List.set_cons_succ]; refine hK _ _ ?_; clear hK K)))
      (refine Abs.step_call_val (f := ?_) (args := ?_) (v := ?_) rfl rfl rfl rfl (fun w0 => ?_) (fun w0 hI => ?_) (fun K hK => ?_); rotate_left 3; (· go_simp; (constructor <;> rfl)); (· exact cW _); (simp only [Act.put, List.setIfInBounds_toArray, List.set_cons_zero, List.set_cons_succ]; refine hK _ _ ?_; clear hK K))
      repeat (first | (refine Abs.step_pure rfl rfl (fun K hK => ?_); go_simp; (try go_bits); (first | refine hK _ _ ?_ | (simp only [↓IntWalk.iteOmega]; go_simp; (try go_bits); refine hK _ _ ?_)); clear hK K) | (refine Abs.step_load (v := ?_) rfl rfl (by kernel_rfl) rfl (fun w0 hI => ?_) (fun K hK => ?_); rotate_left; (· have z0 := (rcell (kp hI (f_g3))).1; have z1 := (rcell (kp hI (f_o3))).1; have z2 := (rcell (kp hI (f_b3))).1; go_simp; rfl); (simp only [Act.put, List.setIfInBounds_toArray, List.set_cons_zero, List.set_cons_succ]; refine hK _ _ ?_; clear hK K)) | (refine Abs.step_skip rfl rfl (fun K hK => ?_); (simp only [Act.put, List.setIfInBounds_toArray, List.set_cons_zero, List.set_cons_succ]; refine hK _ _ ?_; clear hK K)))
      intro w4 hb4 hx0 hx1 hx2
      clear hx0 hx1 hx2
      simp only [Abs.T_setF, Abs.T_addA, Abs.T_push, Abs.T_start]
      have f_g4 := kp hb4 (f_g3)
      have f_o4 := kp hb4 (f_o3)
      have f_b4 := kp hb4 (f_b3)
      have hB4 := bB hB3 hb4
      obtain ⟨zg_a, zg_b, lg4⟩ := rcell f_g4
      obtain ⟨zo_a, zo_b, lo4⟩ := rcell f_o4
      obtain ⟨zb_a, zb_b, lb4⟩ := rcell f_b4
      cases wb
      · have e : E = false := by rw [← hE.out]; exact thrB_no (k := k + 1) (by rw [HT.out, Bool.and_false])
        subst e
        clear hE HT
        go_wp2
        go_ret
        exact ⟨rfl, hB4⟩
      · have HT2 := hide (HT.out.trans (by rw [hT.out]))
        clear HT
        go_wp2
        go_roundw
        case rel => exact ⟨k + 1, by go_num, by omega, HT2, (f_g4), (f_o4), hB4⟩
        case measure => simp [intOf]; omega
    · obtain rfl : k = l.length := by omega
      rw [List.take_length] at hT
      have e : E = true := by rw [← hE.out]; exact hT.out
      subst e
      clear hE
      go_wp2
      go_ret
      exact ⟨rfl, hb⟩

end Go.Proofs.YtpimkigbdjfjoaaDoor
