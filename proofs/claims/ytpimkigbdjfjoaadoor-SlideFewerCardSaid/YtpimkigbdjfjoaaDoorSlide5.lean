/- slide.Slopes$1 at this program. -/
import Derived.Test.YtpimkigbdjfjoaaDoorSlide4
import Derived.Test.YtpimkigbdjfjoaaDoorP9
import Derived.LoopN
import Derived.LoopTactic
import Derived.ChangeKeysEq
set_option linter.unusedSimpArgs false
set_option linter.unusedVariables false
namespace Go.Proofs.YtpimkigbdjfjoaaDoor
open Go.RowKit
variable {ta : TypeId}
attribute [local go_sem] Oper.semAt_some

theorem sl_at0 (a b c d : Int) (w : World) : (Instr.index 73 (.agg #[.int .i64 a, .int .i64 b, .int .i64 c, .int .i64 d]) (.int .i64 0)).run Tryd.prog w = .ok (.agg #[.int .i64 a, .int .i64 b]) w := by
  simp [Instr.index, run_underlying Tryd.underlying73, asIntOf, go_sem]
theorem sl_at1 (a b c d : Int) (w : World) : (Instr.index 73 (.agg #[.int .i64 a, .int .i64 b, .int .i64 c, .int .i64 d]) (.int .i64 1)).run Tryd.prog w = .ok (.agg #[.int .i64 c, .int .i64 d]) w := by
  simp [Instr.index, run_underlying Tryd.underlying73, asIntOf, go_sem]

theorem slope_info : (Tryd.prog.info? 26).map (fun i => (i.zero, i.size, i.bytes)) = some (some (.agg #[.int .i64 0, .int .i64 0]), 2, 16) := by kernel_rfl
theorem sl_eql (a0 a1 a2 a3 b0 b1 b2 b3 : Int) (w : World) : (Op.equalIn 10000 73 (.agg #[.int .i64 a0, .int .i64 a1, .int .i64 a2, .int .i64 a3]) (.agg #[.int .i64 b0, .int .i64 b1, .int .i64 b2, .int .i64 b3])).run Tryd.prog w = .ok (decide (a0 = b0 ∧ a1 = b1 ∧ a2 = b2 ∧ a3 = b3)) w := by
  obtain ⟨i0, hi0, hz0, hz1, hz2⟩ := info_parts slope_info
  rw [run_equalIn_array (w := w) 9999 _ _ Tryd.underlying73 hi0]
  have hc : Tryd.prog.cellsOf 26 = 2 := by simp [Program.cellsOf, hi0, hz1]
  rw [hc, show List.range 2 = [0, 1] from rfl]
  simp [Op.eqItems, go_sem]
  by_cases h0 : a0 = b0 <;> by_cases h1 : a1 = b1 <;> by_cases h2 : a2 = b2 <;> by_cases h3 : a3 = b3 <;> simp [h0, h1, h2, h3]

set_option maxRecDepth 100000 in
set_option maxHeartbeats 1000000 in
theorem slopes1_eq (g : Nat) (v : Value) (w : World) (hg : w.heap[g]? = some (.cells (fcs all0 v) 78 (0, 0))) (hall : w.heap[0]? = some (.cells all4 ta (0, 0))) :
    Calls Tryd.prog 39 #[.pointer (some ⟨g, 0, none⟩)] w fun e w' => e = .returned (.tuple #[.agg #[.int .i64 (-4611688217450643456), .int .i64 1, .int .i64 4611688217450643456, .int .i64 1], .int .i64 0]) ∧ Below w.heap.size w w' := by
  have hq := fun w => sl_eql (-4611688217450643456) 1 4611688217450643456 1 (-4611688217450643456) 1 4611688217450643456 1 w
  simp only [and_self, decide_true] at hq
  unfold all4 at hall
  unfold fcs all0 at hg
  go_enter Tryd.func39, Tryd.ntmps39
  obtain ⟨zg_a, zg_b, lg0⟩ := rcell hg
  obtain ⟨za_a, za_b, la0⟩ := rcell hall
  go_wp2_with fail
  refine bodyPost_ret (by simp [results, Tryd.results39, go_sem]; try rfl) rfl ⟨rfl, bA (bA (b0 w) _) _⟩

set_option maxRecDepth 100000 in
set_option maxHeartbeats 1000000 in
theorem slopes1_ne (g : Nat) (a0 a1 a2 a3 b0' b1' b2' b3' : Int) (v : Value) (hne : ¬ (a0 = -4611688217450643456 ∧ a1 = 1 ∧ a2 = 4611688217450643456 ∧ a3 = 1)) (w : World) (hg : w.heap[g]? = some (.cells #[.int .i64 a0, .int .i64 a1, .int .i64 a2, .int .i64 a3, v] 78 (0, 0))) (hall : w.heap[0]? = some (.cells all4 ta (0, 0)))
    (c0 : ∀ w, Calls Tryd.prog 40 #[.agg #[.int .i64 a0, .int .i64 a1]] w fun e w' => e = .returned (.tuple #[.agg #[.int .i64 b0', .int .i64 b1'], .int .i64 0]) ∧ Below w.heap.size w w')
    (c1 : ∀ w, Calls Tryd.prog 40 #[.agg #[.int .i64 a2, .int .i64 a3]] w fun e w' => e = .returned (.tuple #[.agg #[.int .i64 b2', .int .i64 b3'], .int .i64 0]) ∧ Below w.heap.size w w') :
    Calls Tryd.prog 39 #[.pointer (some ⟨g, 0, none⟩)] w fun e w' => e = .returned (.tuple #[.agg #[.int .i64 b0', .int .i64 b1', .int .i64 b2', .int .i64 b3'], .int .i64 0]) ∧ Below w.heap.size w w' := by
  have i0 := sl_at0
  have i1 := sl_at1
  have hq := fun w => sl_eql a0 a1 a2 a3 (-4611688217450643456) 1 4611688217450643456 1 w
  rw [decide_eq_false hne] at hq
  clear hne
  unfold all4 at hall
  go_enter Tryd.func39, Tryd.ntmps39
  obtain ⟨zg_a, zg_b, lg0⟩ := rcell hg
  obtain ⟨za_a, za_b, la0⟩ := rcell hall
  go_wp2_with fail
  refine wp_loop_rounds 3 ?_
  rw [rounds_succ]
  go_wp2_with fail
  refine (c0 _).mono ?_
  rintro e w1 ⟨rfl, hb1⟩
  have f_g1 := kp hb1 (ka (ka (ka (hg) (.cells #[.int .i64 0, .int .i64 0, .int .i64 0, .int .i64 0] 73)) (.cells #[.int .i64 a0, .int .i64 a1, .int .i64 a2, .int .i64 a3] 73)) (.cells #[.int .i64 a0, .int .i64 a1] 26))
  have f_a1 := kp hb1 (ka (ka (ka (hall) (.cells #[.int .i64 0, .int .i64 0, .int .i64 0, .int .i64 0] 73)) (.cells #[.int .i64 a0, .int .i64 a1, .int .i64 a2, .int .i64 a3] 73)) (.cells #[.int .i64 a0, .int .i64 a1] 26))
  have f_o1 := kp hb1 (ka (ka (na w #[.int .i64 0, .int .i64 0, .int .i64 0, .int .i64 0] 73) (.cells #[.int .i64 a0, .int .i64 a1, .int .i64 a2, .int .i64 a3] 73)) (.cells #[.int .i64 a0, .int .i64 a1] 26))
  have f_n1 := kp hb1 (ka (na1 w (.cells #[.int .i64 0, .int .i64 0, .int .i64 0, .int .i64 0] 73) #[.int .i64 a0, .int .i64 a1, .int .i64 a2, .int .i64 a3] 73) (.cells #[.int .i64 a0, .int .i64 a1] 26))
  have f_x1 := kp hb1 (na2 w (.cells #[.int .i64 0, .int .i64 0, .int .i64 0, .int .i64 0] 73) (.cells #[.int .i64 a0, .int .i64 a1, .int .i64 a2, .int .i64 a3] 73) #[.int .i64 a0, .int .i64 a1] 26)
  have hB1 := bB (bA (bA (bA (b0 w) (.cells #[.int .i64 0, .int .i64 0, .int .i64 0, .int .i64 0] 73)) (.cells #[.int .i64 a0, .int .i64 a1, .int .i64 a2, .int .i64 a3] 73)) (.cells #[.int .i64 a0, .int .i64 a1] 26)) hb1
  clear za_a za_b zg_a zg_b
  obtain ⟨zg_a, zg_b, lg1⟩ := rcell f_g1
  obtain ⟨za_a, za_b, la1⟩ := rcell f_a1
  obtain ⟨zo_a, zo_b, lo1⟩ := rcell f_o1
  obtain ⟨zn_a, zn_b, ln1⟩ := rcell f_n1
  obtain ⟨zx_a, zx_b, lx1⟩ := rcell f_x1
  go_wp2_with fail
  rw [r4_01 f_n1]
  generalize hT2 : setRow _ _ _ = w2
  obtain ⟨hx2, f_n2⟩ := fin_x (b0 _) f_n1 hT2
  clear hT2
  have f_g2 := kx hx2 (f_g1) (by omega)
  have f_a2 := kx hx2 (f_a1) (by omega)
  have f_o2 := kx hx2 (f_o1) (by omega)
  have f_x2 := kx hx2 (f_x1) (by omega)
  have hB2 := bX hB1 hx2 (by omega)
  clear za_a za_b zg_a zg_b zn_a zn_b zo_a zo_b zx_a zx_b
  obtain ⟨zg_a, zg_b, lg2⟩ := rcell f_g2
  obtain ⟨za_a, za_b, la2⟩ := rcell f_a2
  obtain ⟨zo_a, zo_b, lo2⟩ := rcell f_o2
  obtain ⟨zx_a, zx_b, lx2⟩ := rcell f_x2
  obtain ⟨zn_a, zn_b, ln2⟩ := rcell f_n2
  rw [rounds_succ]
  go_wp2_with fail
  refine (c1 _).mono ?_
  rintro e w3 ⟨rfl, hb3⟩
  have f_g3 := kp hb3 (ka (f_g2) (.cells #[.int .i64 a2, .int .i64 a3] 26))
  have f_a3 := kp hb3 (ka (f_a2) (.cells #[.int .i64 a2, .int .i64 a3] 26))
  have f_o3 := kp hb3 (ka (f_o2) (.cells #[.int .i64 a2, .int .i64 a3] 26))
  have f_x3 := kp hb3 (ka (f_x2) (.cells #[.int .i64 a2, .int .i64 a3] 26))
  have f_n3 := kp hb3 (ka (f_n2) (.cells #[.int .i64 a2, .int .i64 a3] 26))
  have f_y3 := kp hb3 (na w2 #[.int .i64 a2, .int .i64 a3] 26)
  have hB3 := bB (bA hB2 (.cells #[.int .i64 a2, .int .i64 a3] 26)) hb3
  clear za_a za_b zg_a zg_b zn_a zn_b zo_a zo_b zx_a zx_b
  obtain ⟨zg_a, zg_b, lg3⟩ := rcell f_g3
  obtain ⟨za_a, za_b, la3⟩ := rcell f_a3
  obtain ⟨zo_a, zo_b, lo3⟩ := rcell f_o3
  obtain ⟨zx_a, zx_b, lx3⟩ := rcell f_x3
  obtain ⟨zn_a, zn_b, ln3⟩ := rcell f_n3
  obtain ⟨zy_a, zy_b, ly3⟩ := rcell f_y3
  go_wp2_with fail
  rw [r4_23 f_n3]
  generalize hT4 : setRow _ _ _ = w4
  obtain ⟨hx4, f_n4⟩ := fin_x (b0 _) f_n3 hT4
  clear hT4
  have f_g4 := kx hx4 (f_g3) (by omega)
  have f_a4 := kx hx4 (f_a3) (by omega)
  have f_o4 := kx hx4 (f_o3) (by omega)
  have f_x4 := kx hx4 (f_x3) (by omega)
  have f_y4 := kx hx4 (f_y3) (by omega)
  have hB4 := bX hB3 hx4 (by omega)
  clear za_a za_b zg_a zg_b zn_a zn_b zo_a zo_b zx_a zx_b zy_a zy_b
  obtain ⟨zg_a, zg_b, lg4⟩ := rcell f_g4
  obtain ⟨za_a, za_b, la4⟩ := rcell f_a4
  obtain ⟨zo_a, zo_b, lo4⟩ := rcell f_o4
  obtain ⟨zx_a, zx_b, lx4⟩ := rcell f_x4
  obtain ⟨zy_a, zy_b, ly4⟩ := rcell f_y4
  obtain ⟨zn_a, zn_b, ln4⟩ := rcell f_n4
  rw [rounds_succ]
  go_wp2_with fail
  (rw [row4 (f_o4)]; generalize hT : setRow _ _ _ = wE; obtain ⟨hbE, hgE⟩ := ret_row hB4 (by omega) (f_o4) hT; have zE := (rcell hgE).1; clear hT; refine bodyPost_ret (by simp [results, Tryd.results39, go_sem, zE]; try rfl) rfl ?_)
  exact ⟨rfl, hbE⟩

theorem slide_Slopes1 (g : Nat) (s : Sl × Sl) (h1 : slIs s.1 = true) (h2 : slIs s.2 = true) (v : Value) (w : World) (hg : w.heap[g]? = some (.cells (fcs s v) 78 (0, 0))) (hall : w.heap[0]? = some (.cells all4 ta (0, 0))) :
    Calls Tryd.prog 39 #[.pointer (some ⟨g, 0, none⟩)] w fun e w' => e = .returned (.tuple #[.agg #[.int .i64 (lwN s.1.n s.1.d), .int .i64 (lwD s.1.n s.1.d), .int .i64 (lwN s.2.n s.2.d), .int .i64 (lwD s.2.n s.2.d)], .int .i64 0]) ∧ Below w.heap.size w w' := by
  obtain ⟨⟨a0, a1⟩, a2, a3⟩ := s
  by_cases he : a0 = -4611688217450643456 ∧ a1 = 1 ∧ a2 = 4611688217450643456 ∧ a3 = 1
  · obtain ⟨rfl, rfl, rfl, rfl⟩ := he
    have e1 : lwN (-4611688217450643456) 1 = -4611688217450643456 := by decide +kernel
    have e2 : lwD (-4611688217450643456) 1 = 1 := by decide +kernel
    have e3 : lwN 4611688217450643456 1 = 4611688217450643456 := by decide +kernel
    have e4 : lwD 4611688217450643456 1 = 1 := by decide +kernel
    simp only [e1, e2, e3, e4]
    exact slopes1_eq g v w hg hall
  · exact slopes1_ne g a0 a1 a2 a3 _ _ _ _ v he w hg hall (fun w => line_Lowest_yes a0 a1 h1 w) (fun w => line_Lowest_yes a2 a3 h2 w)
end Go.Proofs.YtpimkigbdjfjoaaDoor
