/- slices.Equal of lines at this program, of lines that are the same; append where two rows grow side by side. -/
import Derived.Test.YtfdaabdibpcjeaaPA
import Derived.Test.YtfdaabdibpcjeaaSwingL
set_option linter.unusedSimpArgs false
set_option linter.unusedVariables false
namespace Go.Proofs.Ytfdaabdibpcjeaa
open Go.RowKit

def ld (l : List Ln) (i : Nat) : Ln := l.getD i ⟨0, 0, 0, 0⟩
theorem ld_eq {l : List Ln} {i : Nat} (h : i < l.length) : l[i] = ld l i := by unfold ld; simp [List.getD, h]

set_option maxRecDepth 100000 in
theorem equal_lines_nil (A X : Option Addr) (c C : Nat) (w : World) :
    Calls Try.prog 23 #[.slice A 0 c, .slice X 0 C] w fun e w' => e = .returned (.bool true) ∧ Below w.heap.size w w' := by
  go_enter Try.func23, Try.ntmps23
  go_wp2_with fail
  go_loopw [13] (fun vi wr => vi = .int .i64 0 ∧ wr = w) (fun vi _ => 0)
  case atStart => exact ⟨rfl, rfl⟩
  case round =>
    obtain ⟨rfl, rfl⟩ := hrel
    go_wp2
    go_ret
    exact ⟨rfl, b0 _⟩

set_option maxRecDepth 100000 in
set_option maxHeartbeats 1000000 in
theorem equal_lines_in (A X : Option Addr) (c C : Nat) (ys : List Ln) (h0 : 0 < ys.length) (h1 : ys.length ≤ 100000) (w : World) (hR : LR w A c ys) (hX : LR w X C ys) :
    Calls Try.prog 23 #[.slice A ys.length c, .slice X ys.length C] w fun e w' => e = .returned (.bool true) ∧ Below w.heap.size w w' := by
  obtain ⟨g, cur, rfl, hg, hc⟩ := hR.2.2 h0
  obtain ⟨g', cur', rfl, hg', hc'⟩ := hX.2.2 h0
  have hd : ∀ i, i < ys.length → cur[i * 4]? = some (.int .i64 (ld ys i).x) ∧ cur[i * 4 + 1]? = some (.int .i64 (ld ys i).y) ∧ cur[i * 4 + 2]? = some (.int .i64 (ld ys i).n) ∧ cur[i * 4 + 3]? = some (.int .i64 (ld ys i).d) := fun i hi => by
    have := hc i hi
    rw [ld_eq hi] at this
    exact this
  have hd' : ∀ i, i < ys.length → cur'[i * 4]? = some (.int .i64 (ld ys i).x) ∧ cur'[i * 4 + 1]? = some (.int .i64 (ld ys i).y) ∧ cur'[i * 4 + 2]? = some (.int .i64 (ld ys i).n) ∧ cur'[i * 4 + 3]? = some (.int .i64 (ld ys i).d) := fun i hi => by
    have := hc' i hi
    rw [ld_eq hi] at this
    exact this
  have HC := hide hd
  have HD := hide hd'
  clear hc hc' hd hd' hR hX
  go_enter Try.func23, Try.ntmps23
  obtain ⟨zg_a, zg_b, lg0⟩ := rcell hg
  obtain ⟨zh_a, zh_b, lh0⟩ := rcell hg'
  go_wp2_with fail
  go_loopw [13] (fun vi wr => ∃ k : Nat, vi = .int .i64 k ∧ k ≤ ys.length ∧ wr.heap[g]? = some (.cells cur 23 (0, 0)) ∧ wr.heap[g']? = some (.cells cur' 23 (0, 0)) ∧ Below w.heap.size w wr) (fun vi _ => ys.length - (intOf vi).toNat)
  case atStart => exact ⟨0, rfl, by omega, (hg), (hg'), (b0 w)⟩
  case round =>
    obtain ⟨k, rfl, hk, j1, j2, hb⟩ := hrel
    by_cases hlt : k < ys.length
    · obtain ⟨q1, q2, q3, q4⟩ := HC.out k hlt
      obtain ⟨p1, p2, p3, p4⟩ := HD.out k hlt
      obtain ⟨zg_a, zg_b, lg1⟩ := rcell j1
      obtain ⟨zh_a, zh_b, lh2⟩ := rcell j2
      go_wp2_with fail
      refine Abs.wp_region_abs (Abs.cls0 _) [0, 1, 2, 3, 4, 5, 6, 7, 8] (by kernel_rfl) (by kernel_rfl) (Below.refl _ _).drew ?_
      repeat (first | (refine Abs.step_pure rfl rfl (fun K hK => ?_); go_simp; (try go_bits); (first | refine hK _ _ ?_ | (simp only [↓IntWalk.iteOmega]; go_simp; (try go_bits); refine hK _ _ ?_)); clear hK K) | (refine Abs.step_load (v := ?_) rfl rfl (by kernel_rfl) rfl (fun w0 hI => ?_) (fun K hK => ?_); rotate_left; (· have z0 := (rcell (kp hI (j1))).1; have z1 := (rcell (kp hI (j2))).1; go_simp; rfl); (simp only [Act.put, List.setIfInBounds_toArray, List.set_cons_zero, List.set_cons_succ]; refine hK _ _ ?_; clear hK K)) | (refine Abs.step_skip rfl rfl (fun K hK => ?_); (simp only [Act.put, List.setIfInBounds_toArray, List.set_cons_zero, List.set_cons_succ]; refine hK _ _ ?_; clear hK K)))
      intro w4 hb4 hx0 hx1 hx2
      clear hx0 hx1 hx2
      simp only [Abs.T_setF, Abs.T_addA, Abs.T_push, Abs.T_start]
      have f_g4 := kp hb4 (j1)
      have f_h4 := kp hb4 (j2)
      have hB4 := bB hb hb4
      clear zg_a zg_b zh_a zh_b
      obtain ⟨zg_a, zg_b, lg4⟩ := rcell f_g4
      obtain ⟨zh_a, zh_b, lh4⟩ := rcell f_h4
      go_wp2
      go_roundw
      case rel => exact ⟨k + 1, by go_num, by omega, (f_g4), (f_h4), hB4⟩
      case measure => simp [intOf]; omega
    · obtain rfl : k = ys.length := by omega
      go_wp2
      go_ret
      exact ⟨rfl, hb⟩

theorem equal_lines (A X : Option Addr) (c C : Nat) (ys : List Ln) (h1 : ys.length ≤ 100000) (w : World) (hR : LR w A c ys) (hX : LR w X C ys) :
    Calls Try.prog 23 #[.slice A ys.length c, .slice X ys.length C] w fun e w' => e = .returned (.bool true) ∧ Below w.heap.size w w' := by
  by_cases h0 : 0 < ys.length
  · exact equal_lines_in A X c C ys h0 h1 w hR hX
  · obtain rfl := List.eq_nil_of_length_eq_zero (show ys.length = 0 by omega)
    exact equal_lines_nil A X c C w

theorem own_ne {B : Nat} {w : World} {v u : Value} {ns : List Nat} {ls : List Ln} (h : Own B w v ns) (hl : OwnL B w u ls) : (v.ownBlock = none ∨ v.ownBlock ≠ u.ownBlock) ∧ (u.ownBlock = none ∨ u.ownBlock ≠ v.ownBlock) := by
  obtain ⟨-, ⟨rfl, -⟩ | ⟨g, cap, cur, rfl, -, hg, -⟩⟩ := h
  · obtain ⟨-, ⟨rfl, -⟩ | ⟨g', cap', cur', rfl, -, hg', -⟩⟩ := hl
    · exact ⟨.inl rfl, .inl rfl⟩
    · exact ⟨.inl rfl, .inr (by simp [Value.ownBlock])⟩
  · obtain ⟨-, ⟨rfl, -⟩ | ⟨g', cap', cur', rfl, -, hg', -⟩⟩ := hl
    · exact ⟨.inr (by simp [Value.ownBlock]), .inl rfl⟩
    · have hne : g ≠ g' := by
        rintro rfl
        rw [hg] at hg'
        injection hg' with h1
        injection h1 with _ h2 _
        exact absurd h2 (by decide)
      refine ⟨.inr ?_, .inr ?_⟩
      · simp only [Value.ownBlock]; intro e; injection e with e; exact hne e
      · simp only [Value.ownBlock]; intro e; injection e with e; exact hne e.symm

/-- append onto a row of numbers, a row of lines stays -/
theorem wpList_push2 {ops : Array Oper} {rest : List Oper} {o : Oper} {a : Act} {w : World} {Q : Exit → Act → World → Prop} (hgd : o.guard = none) (s x : Operand)
    (ho : o.op = .call { callee := .builtin .append, args := #[s, x], argTypes := #[39, 39] }) (B : Nat) (v u : Value) (l m : List Nat) (k : List Ln) (A : Option Addr) (c : Nat)
    (hs : a.eval s = v) (hx : a.eval x = .slice A m.length c) (hown : Own B w v l) (hu : OwnL B w u k) (hr : Rd w A c m) (hlen : l.length + m.length ≤ 4096) (hB : B ≤ w.heap.size)
    (h : ∀ v' w', Own B w' v' (l ++ m) → OwnL B w' u k → (∀ w0 : World, Below B w0 w → Below B w0 w') → w.heap.size ≤ w'.heap.size → wpList Try.prog ops Q rest (a.put o.dst v') w') : wpList Try.prog ops Q (o :: rest) a w := by
  obtain ⟨v', w', hrun, h2, h3⟩ := push_run w o.type hown hr hlen hB
  refine wpList_plain hgd fun _ hK => ?_
  unfold Oper.wp execOp
  simp only [ho, resolve, invoke, builtin, Sem.run_bind, Sem.run_pure, Result.andThen_ok, List.map_toArray, List.map_cons, List.map_nil, hs, hx, hrun]
  exact hK _ _ (h v' w' h2 (World.ownsRow.kept hu h3 (own_ne hown hu).2) (fun w0 hb => hb.grown h3 hB hown.lt) h3.size)

/-- append onto a row of lines, a row of numbers stays -/
theorem wpList_pushL2 {ops : Array Oper} {rest : List Oper} {o : Oper} {a : Act} {w : World} {Q : Exit → Act → World → Prop} (hgd : o.guard = none) (s x : Operand)
    (ho : o.op = .call { callee := .builtin .append, args := #[s, x], argTypes := #[43, 43] }) (B : Nat) (v u : Value) (l : List Ln) (k : List Nat) (b : Ln) (g c : Nat)
    (hs : a.eval s = v) (hx : a.eval x = .slice (some ⟨g, 0, none⟩) 1 c) (hown : OwnL B w v l) (hu : Own B w u k) (hg : w.heap[g]? = some (.cells b.cs 23 (0, 0))) (hlen : l.length + 1 ≤ 4096) (hB : B ≤ w.heap.size)
    (h : ∀ v' w', OwnL B w' v' (l ++ [b]) → Own B w' u k → (∀ w0 : World, Below B w0 w → Below B w0 w') → w.heap.size ≤ w'.heap.size → wpList Try.prog ops Q rest (a.put o.dst v') w') : wpList Try.prog ops Q (o :: rest) a w := by
  obtain ⟨v', w', hrun, h2, h3⟩ := pushL_run (c := c) w o.type hown hg hlen hB
  refine wpList_plain hgd fun _ hK => ?_
  unfold Oper.wp execOp
  simp only [ho, resolve, invoke, builtin, Sem.run_bind, Sem.run_pure, Result.andThen_ok, List.map_toArray, List.map_cons, List.map_nil, hs, hx]
  rw [hrun]
  exact hK _ _ (h v' w' h2 (World.ownsRow.kept hu h3 (own_ne hu hown).1) (fun w0 hb => hb.grown h3 hB hown.lt) h3.size)
end Go.Proofs.Ytfdaabdibpcjeaa
