/- (door).take, told by plain arithmetic; (door).line. -/
import Derived.Test.YtfdaabdibpcjeaaSwingM
import Derived.Test.YtfdaabdibpcjeaaLineOf
set_option linter.unusedSimpArgs false
set_option linter.unusedVariables false
namespace Go.Proofs.Ytfdaabdibpcjeaa
open Go.RowKit

theorem slope_rg {d : Dr} {last : Int} {b : Bd} (hd : DrOk d last) (h : bdB last b = true) {x : Int} (hx : bkB x = true) :
    (-9223372036854775808 ≤ x - d.v ∧ x - d.v ≤ 9223372036854775807) ∧ (-9223372036854775808 ≤ b.t - d.t ∧ b.t - d.t ≤ 9223372036854775807) := by
  have := slB_spec (slope_sl hd h hx)
  omega

theorem door_take_2 (g : Nat) (d : Dr) (last : Int) (b : Bd) (hd : DrOk d last) (h : bdB last b = true) (hm : d.many = 1) (w : World) (hg : w.heap[g]? = some (.cells d.cs 72 (0, 0))) :
    Calls Try.prog 85 #[.pointer (some ⟨g, 0, none⟩), .agg #[.int .i64 b.t, .int .i64 b.lo, .int .i64 b.hi]] w fun x w' => x = .returned (.bool (drOpen (drTake d b))) ∧ Exc g w w' ∧
      w'.heap[g]? = some (.cells (drTake d b).cs 72 (0, 0)) := by
  have hb := bdB_spec h
  have s0 := slope_sl hd h hb.2.2.2.1
  have s1 := slope_sl hd h hb.2.2.2.2
  obtain ⟨⟨x1, x2⟩, x3, x4⟩ := slope_rg hd h hb.2.2.2.1
  obtain ⟨⟨y1, y2⟩, y3, y4⟩ := slope_rg hd h hb.2.2.2.2
  have l0 := low_low s0
  have l1 := low_low s1
  obtain ⟨z0, z1, z2, z3⟩ := hd.one hm
  have hz : ¬ (slB (lwN (b.lo - d.v) (b.t - d.t)) (lwD (b.lo - d.v) (b.t - d.t)) = true ∧ slB 0 0 = true) := fun h => absurd h.2 (by decide)
  have hz' : ¬ (slB (lwN (b.hi - d.v) (b.t - d.t)) (lwD (b.hi - d.v) (b.t - d.t)) = true ∧ slB 0 0 = true) := fun h => absurd h.2 (by decide)
  have e : (drTake d b).cs = #[.int .i64 d.t, .int .i64 d.v, .int .i64 (lwN (b.lo - d.v) (b.t - d.t)), .int .i64 (lwD (b.lo - d.v) (b.t - d.t)), .int .i64 (lwN (b.hi - d.v) (b.t - d.t)), .int .i64 (lwD (b.hi - d.v) (b.t - d.t)), .int .i64 2] := by
    unfold drTake Dr.cs
    rw [if_neg (by omega)]
    simp [hm]
  have eo : drOpen (drTake d b) = (eqP (lwN (b.lo - d.v) (b.t - d.t)) (lwD (b.lo - d.v) (b.t - d.t)) (lwN (b.hi - d.v) (b.t - d.t)) (lwD (b.hi - d.v) (b.t - d.t)) || decide (cmpI (lwN (b.lo - d.v) (b.t - d.t) * lwD (b.hi - d.v) (b.t - d.t)) (lwN (b.hi - d.v) (b.t - d.t) * lwD (b.lo - d.v) (b.t - d.t)) < 0)) := by
    rw [eqP_cross l0 l1]
    unfold drOpen drTake
    rw [if_neg (by omega)]
    simp [hm]
  rw [e, eo]
  have e0 : d.cs = #[.int .i64 d.t, .int .i64 d.v, .int .i64 0, .int .i64 0, .int .i64 0, .int .i64 0, .int .i64 1] := by
    unfold Dr.cs
    rw [z0, z1, z2, z3, hm]
  rw [e0] at hg
  exact take_2 g d.t d.v 0 0 0 0 1 b.t b.lo b.hi _ _ _ _ 0 0 _ false false true _ (by decide) rfl
    (fun w hw => door_slope g d.t d.v 0 0 0 0 2 b.t b.lo b.hi b.lo s0 x1 x2 x3 x4 w hw) (fun w hw => door_slope g d.t d.v 0 0 0 0 2 b.t b.lo b.hi b.hi s1 y1 y2 y3 y4 w hw)
    (line_Compare_no _ _ _ _ hz) (line_Compare_no _ _ _ _ hz') (line_Compare_yes _ _ _ _ l0.1 l1.1) w hg

theorem door_take_3 (g : Nat) (d : Dr) (last : Int) (b : Bd) (hd : DrOk d last) (h : bdB last b = true) (hm : 2 ≤ d.many) (w : World) (hg : w.heap[g]? = some (.cells d.cs 72 (0, 0))) :
    Calls Try.prog 85 #[.pointer (some ⟨g, 0, none⟩), .agg #[.int .i64 b.t, .int .i64 b.lo, .int .i64 b.hi]] w fun x w' => x = .returned (.bool (drOpen (drTake d b))) ∧ Exc g w w' ∧
      w'.heap[g]? = some (.cells (drTake d b).cs 72 (0, 0)) := by
  have hb := bdB_spec h
  have s0 := slope_sl hd h hb.2.2.2.1
  have s1 := slope_sl hd h hb.2.2.2.2
  obtain ⟨⟨x1, x2⟩, x3, x4⟩ := slope_rg hd h hb.2.2.2.1
  obtain ⟨⟨y1, y2⟩, y3, y4⟩ := slope_rg hd h hb.2.2.2.2
  have l0 := low_low s0
  have l1 := low_low s1
  obtain ⟨k0, k1⟩ := hd.two (by omega)
  have m2 := hd.m2
  have c0 := fun w hw => door_slope g d.t d.v d.n0 d.d0 d.n1 d.d1 (d.many + 1) b.t b.lo b.hi b.lo s0 x1 x2 x3 x4 w hw
  have c1 := fun w hw => door_slope g d.t d.v d.n0 d.d0 d.n1 d.d1 (d.many + 1) b.t b.lo b.hi b.hi s1 y1 y2 y3 y4 w hw
  have n0 : ¬ d.many = 0 := by omega
  have n1 : ¬ d.many = 1 := by omega
  have n2 : ¬ d.many + 1 = 1 := by omega
  have f1 := fun b0 => cmp_pos (lwN (b.lo - d.v) (b.t - d.t) * d.d0) (d.n0 * lwD (b.lo - d.v) (b.t - d.t)) |>.trans (b := decide (d.n0 * lwD (b.lo - d.v) (b.t - d.t) < lwN (b.lo - d.v) (b.t - d.t) * d.d0)) (c := b0)
  have f2 := fun b0 => cmp_neg (lwN (b.hi - d.v) (b.t - d.t) * d.d1) (d.n1 * lwD (b.hi - d.v) (b.t - d.t)) |>.trans (b := decide (lwN (b.hi - d.v) (b.t - d.t) * d.d1 < d.n1 * lwD (b.hi - d.v) (b.t - d.t))) (c := b0)
  unfold drOpen drTake
  rw [if_neg n0]
  simp only [n1, n2, false_or]
  by_cases p : d.n0 * lwD (b.lo - d.v) (b.t - d.t) < lwN (b.lo - d.v) (b.t - d.t) * d.d0 <;> by_cases q : lwN (b.hi - d.v) (b.t - d.t) * d.d1 < d.n1 * lwD (b.hi - d.v) (b.t - d.t)
  · simp only [if_pos p, if_pos q]
    exact take_tt g d.t d.v d.n0 d.d0 d.n1 d.d1 d.many b.t b.lo b.hi _ _ _ _ _ _ _ true true true _ hm (f1 _ (decide_eq_true p)) (f2 _ (decide_eq_true q)) (by omega) (eqP_cross l0 l1) c0 c1
      (line_Compare_yes _ _ _ _ l0.1 k0.1) (line_Compare_yes _ _ _ _ l1.1 k1.1) (line_Compare_yes _ _ _ _ l0.1 l1.1) w hg
  · simp only [if_pos p, if_neg q]
    exact take_tf g d.t d.v d.n0 d.d0 d.n1 d.d1 d.many b.t b.lo b.hi _ _ _ _ _ _ _ true true true _ hm (f1 _ (decide_eq_true p)) (f2 _ (decide_eq_false q)) (by omega) (eqP_cross l0 k1) c0 c1
      (line_Compare_yes _ _ _ _ l0.1 k0.1) (line_Compare_yes _ _ _ _ l1.1 k1.1) (line_Compare_yes _ _ _ _ l0.1 k1.1) w hg
  · simp only [if_neg p, if_pos q]
    exact take_ft g d.t d.v d.n0 d.d0 d.n1 d.d1 d.many b.t b.lo b.hi _ _ _ _ _ _ _ true true true _ hm (f1 _ (decide_eq_false p)) (f2 _ (decide_eq_true q)) (by omega) (eqP_cross k0 l1) c0 c1
      (line_Compare_yes _ _ _ _ l0.1 k0.1) (line_Compare_yes _ _ _ _ l1.1 k1.1) (line_Compare_yes _ _ _ _ k0.1 l1.1) w hg
  · simp only [if_neg p, if_neg q]
    exact take_ff g d.t d.v d.n0 d.d0 d.n1 d.d1 d.many b.t b.lo b.hi _ _ _ _ _ _ _ true true true _ hm (f1 _ (decide_eq_false p)) (f2 _ (decide_eq_false q)) (by omega) (eqP_cross k0 k1) c0 c1
      (line_Compare_yes _ _ _ _ l0.1 k0.1) (line_Compare_yes _ _ _ _ l1.1 k1.1) (line_Compare_yes _ _ _ _ k0.1 k1.1) w hg

/-- a door that may take the next band -/
def DrAt (d : Dr) (last : Int) : Prop := (d = dr0 ∧ last = -1) ∨ DrOk d last
theorem DrAt.next {d : Dr} {last : Int} {b : Bd} (hd : DrAt d last) (h : bdB last b = true) (hm : d.many < 1000) : DrOk (drTake d b) b.t := by
  rcases hd with ⟨rfl, rfl⟩ | hd
  · exact DrOk.first h
  · exact hd.next h hm

theorem door_take (g : Nat) (d : Dr) (last : Int) (b : Bd) (hd : DrAt d last) (h : bdB last b = true) (w : World) (hg : w.heap[g]? = some (.cells d.cs 72 (0, 0))) :
    Calls Try.prog 85 #[.pointer (some ⟨g, 0, none⟩), .agg #[.int .i64 b.t, .int .i64 b.lo, .int .i64 b.hi]] w fun x w' => x = .returned (.bool (drOpen (drTake d b))) ∧ Exc g w w' ∧
      w'.heap[g]? = some (.cells (drTake d b).cs 72 (0, 0)) := by
  have hb := bdB_spec h
  rcases hd with ⟨rfl, rfl⟩ | hd
  · exact take_1 g 0 0 0 0 0 0 b hb.2.2.2.1 hb.2.2.2.2 w hg
  · by_cases hm : d.many = 1
    · exact door_take_2 g d last b hd h hm w hg
    · exact door_take_3 g d last b hd h (by have := hd.m1; omega) w hg
end Go.Proofs.Ytfdaabdibpcjeaa
