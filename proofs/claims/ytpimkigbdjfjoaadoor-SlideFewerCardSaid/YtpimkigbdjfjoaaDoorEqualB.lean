/- slices.Equal of bands at this program, of bands that are the same. -/
import Derived.Test.YtpimkigbdjfjoaaDoorPB
import Derived.Test.YtpimkigbdjfjoaaDoorPA
import Derived.Deep.Slices
set_option linter.unusedSimpArgs false
set_option linter.unusedVariables false
namespace Go.Proofs.YtpimkigbdjfjoaaDoor
open Go.RowKit

theorem inB_cells {wr w0 : World} {ad : Addr} {ys : List Bd} (hb : Below wr.heap.size wr w0) (h : InB wr (some ad) ys) (k : Nat) (hk : k < ys.length) :
    w0.cell? (ad.add (k * 3)) = some (.int .i64 (bd ys k).t) ∧ w0.cell? { block := (ad.add (k * 3)).block, off := (ad.add (k * 3)).off + 1 } = some (.int .i64 (bd ys k).lo) ∧ w0.cell? { block := (ad.add (k * 3)).block, off := (ad.add (k * 3)).off + 2 } = some (.int .i64 (bd ys k).hi) := by
  obtain ⟨ad', e, -, h2⟩ := (h.below hb) (by omega)
  obtain rfl : ad = ad' := Option.some.inj e
  obtain ⟨q1, q2, q3⟩ := h2 k hk
  rw [bd_eq hk] at q1 q2 q3
  have e1 : (ad.add (k * 3)).add 1 = ad.add (k * 3 + 1) := Go.Deep.add_add _ _ _
  have e2 : (ad.add (k * 3)).add 2 = ad.add (k * 3 + 2) := Go.Deep.add_add _ _ _
  rw [← e1] at q2
  rw [← e2] at q3
  exact ⟨q1, q2, q3⟩

set_option maxRecDepth 100000 in
set_option maxHeartbeats 1000000 in
theorem equal_band (A X : Option Addr) (c C : Nat) (ys : List Bd) (h0 : 0 < ys.length) (h1 : ys.length ≤ 260) (w : World) (hR : BR w A c ys) (hX : InB w X ys) :
    Calls Tryd.prog 16 #[.slice A ys.length c, .slice X ys.length C] w fun e w' => e = .returned (.bool true) ∧ Below w.heap.size w w' := by
  obtain ⟨g, o, cur, rfl, hg, hc⟩ := hR.mem h0
  obtain ⟨ad, rfl, -, -⟩ := hX h0
  have hc' : ∀ i, i < ys.length → cur[o + i * 3]? = some (.int .i64 (bd ys i).t) ∧ cur[o + i * 3 + 1]? = some (.int .i64 (bd ys i).lo) ∧ cur[o + i * 3 + 2]? = some (.int .i64 (bd ys i).hi) := fun i hi => by
    have := hc i hi
    rw [bd_eq hi] at this
    exact this
  have HC := hide hc'
  clear hc hc' hR
  go_enter Tryd.func16, Tryd.ntmps16
  obtain ⟨zg_a, zg_b, lg0⟩ := rcell hg
  go_wp2_with fail
  go_loopw [13] (fun vi wr => ∃ k : Nat, vi = .int .i64 k ∧ k ≤ ys.length ∧ wr.heap[g]? = some (.cells cur 37 (0, 0)) ∧ Below w.heap.size w wr) (fun vi _ => ys.length - (intOf vi).toNat)
  case atStart => exact ⟨0, rfl, by omega, (hg), (b0 w)⟩
  case round =>
    obtain ⟨k, rfl, hk, j1, hb⟩ := hrel
    by_cases hlt : k < ys.length
    · obtain ⟨q1, q2, q3⟩ := HC.out k hlt
      have hXr := hX.below hb
      obtain ⟨zg_a, zg_b, lg1⟩ := rcell j1
      go_wp2_with fail
      refine Abs.wp_region_abs (Abs.cls0 _) [0, 1, 2, 3, 4, 5, 6, 7, 8] (by kernel_rfl) (by kernel_rfl) (Below.refl _ _).drew ?_
      repeat (first | (refine Abs.step_pure rfl rfl (fun K hK => ?_); go_simp; (try go_bits); (first | refine hK _ _ ?_ | (simp only [↓IntWalk.iteOmega]; go_simp; (try go_bits); refine hK _ _ ?_)); clear hK K) | (refine Abs.step_load (v := ?_) rfl rfl (by kernel_rfl) rfl (fun w0 hI => ?_) (fun K hK => ?_); rotate_left; (· have zX := inB_cells hI hXr k hlt; obtain ⟨zX1, zX2, zX3⟩ := zX; have z0 := (rcell (kp hI (j1))).1; go_simp; rfl); (simp only [Act.put, List.setIfInBounds_toArray, List.set_cons_zero, List.set_cons_succ]; refine hK _ _ ?_; clear hK K)) | (refine Abs.step_skip rfl rfl (fun K hK => ?_); (simp only [Act.put, List.setIfInBounds_toArray, List.set_cons_zero, List.set_cons_succ]; refine hK _ _ ?_; clear hK K)))
      intro w3 hb3 hx0 hx1 hx2
      clear hx0 hx1 hx2
      simp only [Abs.T_setF, Abs.T_addA, Abs.T_push, Abs.T_start]
      have f_g3 := kp hb3 (j1)
      have hB3 := bB hb hb3
      clear zg_a zg_b
      obtain ⟨zg_a, zg_b, lg3⟩ := rcell f_g3
      go_wp2
      go_roundw
      case rel => exact ⟨k + 1, by go_num, by omega, (f_g3), hB3⟩
      case measure => simp [intOf]; omega
    · obtain rfl : k = ys.length := by omega
      go_wp2
      go_ret
      exact ⟨rfl, hb⟩
end Go.Proofs.YtpimkigbdjfjoaaDoor
