/- yearbooklaw10.at at this program. -/
import Derived.Test.YtpimkigbdjfjoaaDoorLawA1
import Derived.Test.YtpimkigbdjfjoaaDoorTail
set_option linter.unusedSimpArgs false
set_option linter.unusedVariables false
namespace Go.Proofs.YtpimkigbdjfjoaaDoor
open Go.RowKit
attribute [local go_sem] Oper.semAt_some

/-- bands at 0, 1, 2 and so on, of ends -/
def atL (es : List Int) (m : Nat) : List Bd := (List.range m).map fun (i : Nat) => ⟨(i : Int), es.getD (2 * i) 0, es.getD (2 * i + 1) 0⟩
theorem atL_len (es : List Int) (m : Nat) : (atL es m).length = m := by simp [atL]
theorem atL_succ (es : List Int) (m : Nat) : atL es (m + 1) = atL es m ++ [⟨(m : Int), es.getD (2 * m) 0, es.getD (2 * m + 1) 0⟩] := by simp [atL, List.range_succ]
theorem one_InB {w : World} {g : Nat} {bt bl bh : Int} (h : w.heap[g]? = some (.cells #[.int .i64 bt, .int .i64 bl, .int .i64 bh] 37 (0, 0))) : InB w (some ⟨g, 0, none⟩) [⟨bt, bl, bh⟩] := fun _ => by
  have hz := (rcell h).1
  refine ⟨_, rfl, (rcell h).2.2, fun i hi => ?_⟩
  obtain rfl : i = 0 := by simp at hi; omega
  have hadd : ∀ j, (⟨g, 0, none⟩ : Addr).add j = ⟨g, j, none⟩ := fun j => by unfold Addr.add; split <;> simp_all
  rw [hadd, hadd, hadd, hz, hz, hz]
  exact ⟨rfl, rfl, rfl⟩

set_option maxRecDepth 100000 in
set_option maxHeartbeats 2000000 in
theorem law10_at (g m : Nat) (es : List Int) (cur : Array Value) (hm : m ≤ 1000) (HC : Hid (∀ i, i < 2 * m → cur[i]? = some (.int .i64 (es.getD i 0)))) (w : World) (hg : w.heap[g]? = some (.cells cur 2 (0, 0))) :
    Calls Tryd.prog 37 #[.slice (some ⟨g, 0, none⟩) (2 * m) (2 * m)] w fun e w' => ∃ A c, e = .returned (.slice A (atL es m).length c) ∧ BR w' A c (atL es m) ∧ Below w.heap.size w w' := by
  obtain ⟨n, hn⟩ : ∃ n, n = 2 * m := ⟨_, rfl⟩
  rw [← hn] at HC ⊢
  have HN := hide hn
  clear hn
  go_enter Tryd.func37, Tryd.ntmps37
  obtain ⟨zg_a, zg_b, lg0⟩ := rcell hg
  go_wp2_with fail
  go_loopw [3, 4] (fun v3 v4 wr => ∃ k j : Nat, Hid (j = 2 * k) ∧ v4 = .int .i64 j ∧ k ≤ m ∧ OwnB w.heap.size wr v3 (atL es k) ∧ wr.heap[g]? = some (.cells cur 2 (0, 0)) ∧ Below w.heap.size w wr) (fun _ v4 _ => n - (intOf v4).toNat)
  case atStart => exact ⟨0, 0, hide rfl, rfl, by omega, OwnB.nil _ _, hg, b0 w⟩
  case round =>
    obtain ⟨k, j, HJ, rfl, hk, ho, j1, hb⟩ := hrel
    have hj := HJ.out
    have hn := HN.out
    have hjb : j ≤ 2000 := by omega
    have hw1 : IntKind.i64.wrap ((j : Int) + 1) = ((j + 1 : Nat) : Int) := by rw [IntWalk.i64_in _ (by omega)]; omega
    by_cases hlt : k < m
    · have q1 := HC.out j (by omega)
      have q2 := HC.out (j + 1) (by omega)
      rw [hj] at q1 q2
      have hsn := atL_succ es k
      generalize es.getD (2 * k) 0 = x0 at *
      generalize es.getD (2 * k + 1) 0 = x1 at *
      rw [← hj] at q1 q2
      have HSN := hide hsn
      have hk1 : (atL es k).length = k := atL_len es k
      have HK := hide hk1
      clear hsn hk1
      have hdv : Int.tdiv (j : Int) 2 = (k : Int) := by rw [Int.tdiv_eq_ediv_of_nonneg (by omega)]; omega
      have hd1 : j + 1 < n := by omega
      have hj0 : j < n := by omega
      clear hj hn
      obtain ⟨zg_a, zg_b, lg1⟩ := rcell j1
      go_wp2_with fail
      refine Abs.wp_region_tail (Abs.cls0 _) [0, 1, 2, 3, 4, 5, 6, 7, 8, 9, 10, 11, 12, 13] 14 (by kernel_rfl) (by kernel_rfl) (Below.refl _ _).drew ?_
      repeat (first | (refine Abs.step_pure rfl rfl (fun K hK => ?_); go_simp; (try go_bits); (first | refine hK _ _ ?_ | (simp only [↓IntWalk.iteOmega]; go_simp; (try go_bits); refine hK _ _ ?_)); clear hK K) | (refine Abs.step_load (v := ?_) rfl rfl (by kernel_rfl) rfl (fun w0 hI => ?_) (fun K hK => ?_); rotate_left; (· have z0 := (rcell (kp hI (j1))).1; go_simp; rfl); (simp only [Act.put, List.setIfInBounds_toArray, List.set_cons_zero, List.set_cons_succ]; refine hK _ _ ?_; clear hK K)) | (refine Abs.step_skip rfl rfl (fun K hK => ?_); (simp only [Act.put, List.setIfInBounds_toArray, List.set_cons_zero, List.set_cons_succ]; refine hK _ _ ?_; clear hK K)))
      (refine Abs.step_new (f := fun g => .slice (some ⟨g, 0, none⟩) 1 1) (obj := .cells #[.int .i64 k, .int .i64 x0, .int .i64 x1] 37) rfl rfl rfl rfl (fun w0 => ?_) (fun K hK g_x hv_x hu_x => ?_); (· go_simp; try rfl); (simp only [Act.put, List.setIfInBounds_toArray, List.set_cons_zero, List.set_cons_succ]; refine hK _ _ ?_; clear hK K))
      intro w1 hb1 hF hx1 hx2
      have hlit := (hF 13).2 rfl
      clear hx1 hx2 hF
      simp only [Abs.T_setF, Abs.T_addA, Abs.T_push, Abs.T_start, List.drop_succ_cons, List.drop_zero]
      have hb1' : Below wr.heap.size wr w1 := hb1
      have ho1 := ho.lift hb1'
      have B1 := bB hb hb1'
      have j2 := kp hb1' j1
      have hlen : (atL es k).length + [(⟨(k : Int), x0, x1⟩ : Bd)].length ≤ 4096 := by rw [HK.out]; simp; omega
      clear zg_a zg_b hb1 hb1'
      refine wpList_pushB rfl _ _ rfl w.heap.size _ (atL es k) [⟨(k : Int), x0, x1⟩] (some ⟨g_x, 0, none⟩) 1 rfl rfl ho1 (one_InB hlit) hlen B1.size ?_
      intro v2 w2 ho2 hb2 hs2
      have B2 := hb2 _ B1
      rw [← HSN.out] at ho2
      clear hlit hv_x hu_x ho1
      have lg := (rcell hg).2.2
      have j3 : w2.heap[g]? = some (.cells cur 2 (0, 0)) := (B2.block g lg).trans hg
      have HO2 := hide ho2
      clear ho2 ho
      have hw2 : IntKind.i64.wrap ((j : Int) + 2) = ((j + 2 : Nat) : Int) := by rw [IntWalk.i64_in _ (by omega)]; omega
      go_wp2
      go_roundw
      case rel => exact ⟨k + 1, j + 2, hide (by have := HJ.out; omega), by go_num, by omega, HO2.out, j3, B2⟩
      case measure => simp [intOf]; omega
    · obtain rfl : k = m := by omega
      have hd1 : ¬ (j + 1 < n) := by omega
      have hjn : j = n := by omega
      clear hj hn hw1
      subst hjn
      have HO := hide ho
      clear ho
      go_wp2
      go_ret
      obtain ⟨A, c, rfl, hr⟩ := HO.out.br
      exact ⟨A, c, rfl, hr, hb⟩
end Go.Proofs.YtpimkigbdjfjoaaDoor
