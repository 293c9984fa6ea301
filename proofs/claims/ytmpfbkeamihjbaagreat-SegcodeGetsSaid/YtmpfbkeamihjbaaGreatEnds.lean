/- The package line at this program, on: the ends of a line's values. -/
import Derived.Test.YtmpfbkeamihjbaaGreatP3
import Derived.LoopN
import Derived.Scope
set_option linter.unusedSimpArgs false
set_option linter.unusedVariables false
namespace Go.Proofs.YtmpfbkeamihjbaaGreat
open Go.RowKit

theorem cell_one {w : World} {k : Nat} {v : Value} {t : TypeId} (h : w.heap[k]? = some (.cells #[v] t (0, 0))) : w.cell? ⟨k, 0, none⟩ = some v := by
  simp [World.cell?, h]

/-- the function that Ends hands on, behind its variable at block k -/
theorem ends_lit (A R N D dt v e : Int) (k : Nat) (w : World) (hw : w.heap[k]? = some (.cells #[.func (Fn.func 135) #[.agg #[.int .i64 A, .int .i64 R, .int .i64 N, .int .i64 D]] #[]] 180 (0, 0)))
    (c : ∀ w, Calls Tryz.prog 135 #[.agg #[.int .i64 A, .int .i64 R, .int .i64 N, .int .i64 D], .int .i64 dt] w fun x w' => x = .returned (.tuple #[.int .i64 v, .int .i64 e]) ∧ Below w.heap.size w w') :
    Calls Tryz.prog 137 #[.int .i64 dt, .pointer (some ⟨k, 0, none⟩)] w fun x w' => x = .returned (.tuple #[.int .i64 v, .int .i64 e]) ∧ Below w.heap.size w w' := by
  have hc := cell_one hw
  go_enter Tryz.func137, Tryz.ntmps137
  go_wp2_with fail
  refine (c _).mono ?_
  rintro x w1 ⟨rfl, hb1⟩
  go_wp2
  go_ret2
  exact ⟨rfl, hb1⟩

/-- the variable that holds the bound method -/
def fnAt (A R N D : Int) (k : Nat) (w : World) : Prop := w.heap[k]? = some (.cells #[.func (Fn.func 135) #[.agg #[.int .i64 A, .int .i64 R, .int .i64 N, .int .i64 D]] #[]] 180 (0, 0))

theorem lit_at (A R N D dt v e : Int) (k : Nat) (w : World) (hw : fnAt A R N D k w) (c : ∀ w, Calls Tryz.prog 135 #[.agg #[.int .i64 A, .int .i64 R, .int .i64 N, .int .i64 D], .int .i64 dt] w fun x w' => x = .returned (.tuple #[.int .i64 v, .int .i64 e]) ∧ Below w.heap.size w w') :
    Calls Tryz.prog 137 #[.int .i64 dt, .pointer (some ⟨k, 0, none⟩)] w fun x w' => x = .returned (.tuple #[.int .i64 v, .int .i64 e]) ∧ Below w.heap.size w w' := ends_lit A R N D dt v e k w hw c

theorem pair_at0 (x y : Int) (w : World) : (Instr.index 181 (.agg #[.int .i64 x, .int .i64 y]) (.int .i64 0)).run Tryz.prog w = .ok (.int .i64 x) w := by
  simp [Instr.index, run_underlying Tryz.underlying181, asIntOf, go_sem]
theorem pair_at1 (x y : Int) (w : World) : (Instr.index 181 (.agg #[.int .i64 x, .int .i64 y]) (.int .i64 1)).run Tryz.prog w = .ok (.int .i64 y) w := by
  simp [Instr.index, run_underlying Tryz.underlying181, asIntOf, go_sem]
theorem pair_addr0 (b : Nat) (w : World) : (Instr.indexAt 181 (.pointer (some ⟨b, 0, none⟩)) (.int .i64 0)).run Tryz.prog w = .ok (.pointer (some ⟨b, 0, none⟩)) w := by
  simp [Instr.indexAt, Instr.sureAddr, run_underlying Tryz.underlying181, asIntOf, go_sem]
theorem pair_addr1 (b : Nat) (w : World) : (Instr.indexAt 181 (.pointer (some ⟨b, 0, none⟩)) (.int .i64 1)).run Tryz.prog w = .ok (.pointer (some ⟨b, 1, none⟩)) w := by
  simp [Instr.indexAt, Instr.sureAddr, run_underlying Tryz.underlying181, asIntOf, go_sem]

set_option maxRecDepth 100000 in
set_option maxHeartbeats 1000000 in
/-- both are told -/
theorem both_ok (A R N D t0 t1 v0 v1 : Int) (k : Nat) (w : World) (hw : fnAt A R N D k w)
    (c0 : ∀ w, Calls Tryz.prog 135 #[.agg #[.int .i64 A, .int .i64 R, .int .i64 N, .int .i64 D], .int .i64 t0] w fun x w' => x = .returned (.tuple #[.int .i64 v0, .int .i64 0]) ∧ Below w.heap.size w w')
    (c1 : ∀ w, Calls Tryz.prog 135 #[.agg #[.int .i64 A, .int .i64 R, .int .i64 N, .int .i64 D], .int .i64 t1] w fun x w' => x = .returned (.tuple #[.int .i64 v1, .int .i64 0]) ∧ Below w.heap.size w w')
    :
    Calls Tryz.prog 136 #[.agg #[.int .i64 t0, .int .i64 t1], .func (Fn.func 137) #[] #[.pointer (some ⟨k, 0, none⟩)]] w fun x w' => x = .returned (.tuple #[.agg #[.int .i64 v0, .int .i64 v1], .int .i64 0]) ∧ Below w.heap.size w w' := by
  have hk : k < w.heap.size := (Array.getElem?_eq_some_iff.1 hw).1
  have i0 := pair_at0 t0 t1
  have i1 := pair_at1 t0 t1
  have j0 := pair_addr0
  have j1 := pair_addr1
  go_enter Tryz.func136, Tryz.ntmps136
  go_wp2_with fail
  refine wp_scope_straight ?_
  go_wp2_with fail
  refine wp_label ?_
  go_wp2_with fail
  refine wp_loop_rounds 3 ?_
  rw [rounds_succ]
  go_wp2_with fail
  refine (lit_at A R N D t0 v0 0 k _ (ka (ka (ka hw _) _) _) c0).mono ?_
  rintro x w1 ⟨rfl, hb1⟩
  have f1 := kp hb1 (ka (ka (ka hw (.cells #[.int .i64 t0, .int .i64 t1] 181)) (.cells #[.int .i64 0, .int .i64 0] 181)) (.cells #[.int .i64 0, .int .i64 0] 181))
  have a1 := kp hb1 (na2 w (.cells #[.int .i64 t0, .int .i64 t1] 181) (.cells #[.int .i64 0, .int .i64 0] 181) #[.int .i64 0, .int .i64 0] 181)
  have r1 := kp hb1 (ka (na1 w (.cells #[.int .i64 t0, .int .i64 t1] 181) #[.int .i64 0, .int .i64 0] 181) (.cells #[.int .i64 0, .int .i64 0] 181))
  have hB1 := bB (bA (bA (bA (b0 w) (.cells #[.int .i64 t0, .int .i64 t1] 181)) (.cells #[.int .i64 0, .int .i64 0] 181)) (.cells #[.int .i64 0, .int .i64 0] 181)) hb1
  obtain ⟨z1, z2, z3⟩ := rcell a1
  obtain ⟨y1, y2, y3⟩ := rcell r1
  go_wp2_with fail
  rw [setRow_of_setCell (cs' := #[.int .i64 v0, .int .i64 0]) a1 (.int .i64 v0) rfl]
  have hB2 := setRow_below hB1 (g := w.heap.size + 1 + 1) (by omega) #[.int .i64 v0, .int .i64 0]
  have a2 := setRow_same (cs' := #[.int .i64 v0, .int .i64 0]) a1
  have f2 := (setRow_other (w := w1) #[.int .i64 v0, .int .i64 0] (show k ≠ w.heap.size + 1 + 1 by omega)).trans f1
  have r2 := (setRow_other (w := w1) #[.int .i64 v0, .int .i64 0] (show w.heap.size + 1 ≠ w.heap.size + 1 + 1 by omega)).trans r1
  clear z1 z2 z3 y1 y2 y3 hB1 hb1 a1 f1 r1
  change Below w.heap.size w (setRow w1 (w.heap.size + 1 + 1) #[.int .i64 v0, .int .i64 0]) at hB2
  revert hB2 a2 f2 r2
  generalize setRow w1 (w.heap.size + 1 + 1) _ = w2
  intro a2 f2 r2 hB2
  rw [rounds_succ]
  go_wp2_with fail
  refine (lit_at A R N D t1 v1 0 k _ f2 c1).mono ?_
  rintro x w3 ⟨rfl, hb3⟩
  have a3 := kp hb3 a2
  have r3 := kp hb3 r2
  have hB3 := bB hB2 hb3
  obtain ⟨z1, z2, z3⟩ := rcell a3
  obtain ⟨y1, y2, y3⟩ := rcell r3
  go_wp2_with fail
  rw [setRow_of_setCell (cs' := #[.int .i64 v0, .int .i64 v1]) a3 (.int .i64 v1) rfl]
  have hB4 := setRow_below hB3 (g := w.heap.size + 1 + 1) (by omega) #[.int .i64 v0, .int .i64 v1]
  have a4 := setRow_same (cs' := #[.int .i64 v0, .int .i64 v1]) a3
  have r4 := (setRow_other (w := w3) #[.int .i64 v0, .int .i64 v1] (show w.heap.size + 1 ≠ w.heap.size + 1 + 1 by omega)).trans r3
  clear z1 z2 z3 y1 y2 y3 hB3 hb3 a3 r3
  change Below w.heap.size w (setRow w3 (w.heap.size + 1 + 1) #[.int .i64 v0, .int .i64 v1]) at hB4
  revert hB4 a4 r4
  generalize setRow w3 (w.heap.size + 1 + 1) _ = w4
  intro a4 r4 hB4
  obtain ⟨z1, z2, z3⟩ := rcell a4
  obtain ⟨y1, y2, y3⟩ := rcell r4
  rw [rounds_succ]
  go_wp2_with fail
  simp only [Exit.noGoto]
  (rw [row2 r4]; generalize hT : setRow _ _ _ = wE; obtain ⟨hbE, hgE⟩ := ret_row hB4 (by omega) r4 hT; have zE := (rcell hgE).1; clear hT; refine bodyPost_ret (by simp [results, Tryz.results136, go_sem, zE]; try rfl) rfl ?_)
  exact ⟨rfl, hbE⟩

set_option maxRecDepth 100000 in
set_option maxHeartbeats 1000000 in
/-- the first is not told -/
theorem both_0 (A R N D t0 t1 v0 e0 : Int) (k : Nat) (w : World) (hw : fnAt A R N D k w) (he : ¬ e0 = 0)
    (c0 : ∀ w, Calls Tryz.prog 135 #[.agg #[.int .i64 A, .int .i64 R, .int .i64 N, .int .i64 D], .int .i64 t0] w fun x w' => x = .returned (.tuple #[.int .i64 v0, .int .i64 e0]) ∧ Below w.heap.size w w')
    :
    Calls Tryz.prog 136 #[.agg #[.int .i64 t0, .int .i64 t1], .func (Fn.func 137) #[] #[.pointer (some ⟨k, 0, none⟩)]] w fun x w' => x = .returned (.tuple #[.agg #[.int .i64 0, .int .i64 0], .int .i64 e0]) ∧ Below w.heap.size w w' := by
  have hk : k < w.heap.size := (Array.getElem?_eq_some_iff.1 hw).1
  have i0 := pair_at0 t0 t1
  have i1 := pair_at1 t0 t1
  have j0 := pair_addr0
  have j1 := pair_addr1
  go_enter Tryz.func136, Tryz.ntmps136
  go_wp2_with fail
  refine wp_scope_straight ?_
  go_wp2_with fail
  refine wp_label ?_
  go_wp2_with fail
  refine wp_loop_rounds 3 ?_
  rw [rounds_succ]
  go_wp2_with fail
  refine (lit_at A R N D t0 v0 e0 k _ (ka (ka (ka hw _) _) _) c0).mono ?_
  rintro x w1 ⟨rfl, hb1⟩
  have f1 := kp hb1 (ka (ka (ka hw (.cells #[.int .i64 t0, .int .i64 t1] 181)) (.cells #[.int .i64 0, .int .i64 0] 181)) (.cells #[.int .i64 0, .int .i64 0] 181))
  have a1 := kp hb1 (na2 w (.cells #[.int .i64 t0, .int .i64 t1] 181) (.cells #[.int .i64 0, .int .i64 0] 181) #[.int .i64 0, .int .i64 0] 181)
  have r1 := kp hb1 (ka (na1 w (.cells #[.int .i64 t0, .int .i64 t1] 181) #[.int .i64 0, .int .i64 0] 181) (.cells #[.int .i64 0, .int .i64 0] 181))
  have hB1 := bB (bA (bA (bA (b0 w) (.cells #[.int .i64 t0, .int .i64 t1] 181)) (.cells #[.int .i64 0, .int .i64 0] 181)) (.cells #[.int .i64 0, .int .i64 0] 181)) hb1
  obtain ⟨z1, z2, z3⟩ := rcell a1
  obtain ⟨y1, y2, y3⟩ := rcell r1
  go_wp2_with fail
  simp only [Exit.noGoto]
  (rw [row2 r1]; generalize hT : setRow _ _ _ = wE; obtain ⟨hbE, hgE⟩ := ret_row hB1 (by omega) r1 hT; have zE := (rcell hgE).1; clear hT; refine bodyPost_ret (by simp [results, Tryz.results136, go_sem, zE]; try rfl) rfl ?_)
  exact ⟨rfl, hbE⟩

set_option maxRecDepth 100000 in
set_option maxHeartbeats 1000000 in
/-- the second is not told -/
theorem both_1 (A R N D t0 t1 v0 v1 e1 : Int) (k : Nat) (w : World) (hw : fnAt A R N D k w) (he : ¬ e1 = 0)
    (c0 : ∀ w, Calls Tryz.prog 135 #[.agg #[.int .i64 A, .int .i64 R, .int .i64 N, .int .i64 D], .int .i64 t0] w fun x w' => x = .returned (.tuple #[.int .i64 v0, .int .i64 0]) ∧ Below w.heap.size w w')
    (c1 : ∀ w, Calls Tryz.prog 135 #[.agg #[.int .i64 A, .int .i64 R, .int .i64 N, .int .i64 D], .int .i64 t1] w fun x w' => x = .returned (.tuple #[.int .i64 v1, .int .i64 e1]) ∧ Below w.heap.size w w')
    :
    Calls Tryz.prog 136 #[.agg #[.int .i64 t0, .int .i64 t1], .func (Fn.func 137) #[] #[.pointer (some ⟨k, 0, none⟩)]] w fun x w' => x = .returned (.tuple #[.agg #[.int .i64 0, .int .i64 0], .int .i64 e1]) ∧ Below w.heap.size w w' := by
  have hk : k < w.heap.size := (Array.getElem?_eq_some_iff.1 hw).1
  have i0 := pair_at0 t0 t1
  have i1 := pair_at1 t0 t1
  have j0 := pair_addr0
  have j1 := pair_addr1
  go_enter Tryz.func136, Tryz.ntmps136
  go_wp2_with fail
  refine wp_scope_straight ?_
  go_wp2_with fail
  refine wp_label ?_
  go_wp2_with fail
  refine wp_loop_rounds 3 ?_
  rw [rounds_succ]
  go_wp2_with fail
  refine (lit_at A R N D t0 v0 0 k _ (ka (ka (ka hw _) _) _) c0).mono ?_
  rintro x w1 ⟨rfl, hb1⟩
  have f1 := kp hb1 (ka (ka (ka hw (.cells #[.int .i64 t0, .int .i64 t1] 181)) (.cells #[.int .i64 0, .int .i64 0] 181)) (.cells #[.int .i64 0, .int .i64 0] 181))
  have a1 := kp hb1 (na2 w (.cells #[.int .i64 t0, .int .i64 t1] 181) (.cells #[.int .i64 0, .int .i64 0] 181) #[.int .i64 0, .int .i64 0] 181)
  have r1 := kp hb1 (ka (na1 w (.cells #[.int .i64 t0, .int .i64 t1] 181) #[.int .i64 0, .int .i64 0] 181) (.cells #[.int .i64 0, .int .i64 0] 181))
  have hB1 := bB (bA (bA (bA (b0 w) (.cells #[.int .i64 t0, .int .i64 t1] 181)) (.cells #[.int .i64 0, .int .i64 0] 181)) (.cells #[.int .i64 0, .int .i64 0] 181)) hb1
  obtain ⟨z1, z2, z3⟩ := rcell a1
  obtain ⟨y1, y2, y3⟩ := rcell r1
  go_wp2_with fail
  rw [setRow_of_setCell (cs' := #[.int .i64 v0, .int .i64 0]) a1 (.int .i64 v0) rfl]
  have hB2 := setRow_below hB1 (g := w.heap.size + 1 + 1) (by omega) #[.int .i64 v0, .int .i64 0]
  have a2 := setRow_same (cs' := #[.int .i64 v0, .int .i64 0]) a1
  have f2 := (setRow_other (w := w1) #[.int .i64 v0, .int .i64 0] (show k ≠ w.heap.size + 1 + 1 by omega)).trans f1
  have r2 := (setRow_other (w := w1) #[.int .i64 v0, .int .i64 0] (show w.heap.size + 1 ≠ w.heap.size + 1 + 1 by omega)).trans r1
  clear z1 z2 z3 y1 y2 y3 hB1 hb1 a1 f1 r1
  change Below w.heap.size w (setRow w1 (w.heap.size + 1 + 1) #[.int .i64 v0, .int .i64 0]) at hB2
  revert hB2 a2 f2 r2
  generalize setRow w1 (w.heap.size + 1 + 1) _ = w2
  intro a2 f2 r2 hB2
  rw [rounds_succ]
  go_wp2_with fail
  refine (lit_at A R N D t1 v1 e1 k _ f2 c1).mono ?_
  rintro x w3 ⟨rfl, hb3⟩
  have a3 := kp hb3 a2
  have r3 := kp hb3 r2
  have hB3 := bB hB2 hb3
  obtain ⟨z1, z2, z3⟩ := rcell a3
  obtain ⟨y1, y2, y3⟩ := rcell r3
  go_wp2_with fail
  simp only [Exit.noGoto]
  (rw [row2 r3]; generalize hT : setRow _ _ _ = wE; obtain ⟨hbE, hgE⟩ := ret_row hB3 (by omega) r3 hT; have zE := (rcell hgE).1; clear hT; refine bodyPost_ret (by simp [results, Tryz.results136, go_sem, zE]; try rfl) rfl ?_)
  exact ⟨rfl, hbE⟩

end Go.Proofs.YtmpfbkeamihjbaaGreat
