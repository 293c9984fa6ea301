/- The package span at this program: Check, of, span, met, checked. -/
import Derived.Test.YtpimkigbdjfjoaaDoorPA
import Derived.Test.YtpimkigbdjfjoaaDoorTail
set_option linter.unusedSimpArgs false
set_option linter.unusedVariables false
namespace Go.Proofs.YtpimkigbdjfjoaaDoor
open Go.RowKit
attribute [local go_sem] Oper.semAt_some

theorem span_Check_yes (a b : Int) (h : a ≤ b) (w : World) :
    Calls Tryd.prog 142 #[.agg #[.int .i64 a, .int .i64 b]] w fun e w' => e = .returned (.int .i64 0) ∧ Below w.heap.size w w' := by
  have h' : ¬ (b < a) := by omega
  go_enter Tryd.func142, Tryd.ntmps142
  go_wp2
  go_ret
  exact ⟨rfl, (bA (b0 w) (.cells #[.int .i64 a, .int .i64 b] 148))⟩
theorem span_Check_no (a b : Int) (h : b < a) (w : World) :
    Calls Tryd.prog 142 #[.agg #[.int .i64 a, .int .i64 b]] w fun e w' => e = .returned (.int .i64 140) ∧ Below w.heap.size w w' := by
  go_enter Tryd.func142, Tryd.ntmps142
  go_wp2
  go_ret
  exact ⟨rfl, (bA (b0 w) (.cells #[.int .i64 a, .int .i64 b] 148))⟩
theorem span_of (a b : Int) (w : World) :
    Calls Tryd.prog 139 #[.agg #[.int .i64 a, .int .i64 b]] w fun e w' => e = .returned (.agg #[.int .i64 a, .int .i64 b]) ∧ Below w.heap.size w w' := by
  go_enter Tryd.func139, Tryd.ntmps139
  go_wp2
  refine bodyPost_ret (by simp [results, Tryd.results139, go_sem]; try rfl) rfl ⟨rfl, bA (bA (b0 w) _) _⟩
theorem ends_span (a b : Int) (w : World) :
    Calls Tryd.prog 141 #[.agg #[.int .i64 a, .int .i64 b]] w fun e w' => e = .returned (.agg #[.int .i64 a, .int .i64 b]) ∧ Below w.heap.size w w' := by
  go_enter Tryd.func141, Tryd.ntmps141
  go_wp2
  refine bodyPost_ret (by simp [results, Tryd.results141, go_sem]; try rfl) rfl ⟨rfl, bA (bA (b0 w) _) _⟩
theorem ends_met (a b c d : Int) (w : World) :
    Calls Tryd.prog 134 #[.agg #[.int .i64 a, .int .i64 b], .agg #[.int .i64 c, .int .i64 d]] w fun e w' => e = .returned (.agg #[.int .i64 (max a c), .int .i64 (min b d)]) ∧ Below w.heap.size w w' := by
  go_enter Tryd.func134, Tryd.ntmps134
  go_wp2
  all_goals
    refine bodyPost_ret (by simp [results, Tryd.results134, go_sem]; try rfl) rfl ⟨?_, bA (bA (bA (b0 w) _) _) _⟩
    simp
    omega

/-- a slice of two spans, or of two ends, that lies somewhere -/
def Two (t : TypeId) (w : World) (A : Option Addr) (a b c d : Int) : Prop := ∃ g cur, A = some ⟨g, 0, none⟩ ∧ w.heap[g]? = some (.cells cur t (0, 0)) ∧ cur[0]? = some (.int .i64 a) ∧ cur[1]? = some (.int .i64 b) ∧ cur[2]? = some (.int .i64 c) ∧ cur[3]? = some (.int .i64 d)
theorem Two.below {t : TypeId} {w w' : World} {A : Option Addr} {a b c d : Int} (h : Two t w A a b c d) (hb : Below w.heap.size w w') : Two t w' A a b c d := by
  obtain ⟨g, cur, e, hg, h0, h1, h2, h3⟩ := h
  exact ⟨g, cur, e, kp hb hg, h0, h1, h2, h3⟩

set_option maxRecDepth 100000 in
theorem span_checked (A : Option Addr) (m : Nat) (a b c d : Int) (h1 : a ≤ b) (h2 : c ≤ d) (w : World) (hA : Two 148 w A a b c d) :
    Calls Tryd.prog 138 #[.slice A 2 m] w fun e w' => e = .returned (.int .i64 0) ∧ Below w.heap.size w w' := by
  obtain ⟨g, cur, rfl, hg, q0, q1, q2, q3⟩ := hA
  have c1 := span_Check_yes a b h1
  have c2 := span_Check_yes c d h2
  go_enter Tryd.func138, Tryd.ntmps138
  obtain ⟨zg_a, zg_b, lg0⟩ := rcell hg
  go_wp2_with fail
  go_loopw [8] (fun vi wr => ∃ k : Nat, vi = .int .i64 k ∧ k ≤ 2 ∧ wr.heap[g]? = some (.cells cur 148 (0, 0)) ∧ Below w.heap.size w wr) (fun vi _ => 2 - (intOf vi).toNat)
  case atStart => exact ⟨0, rfl, by omega, hg, b0 w⟩
  case round =>
    obtain ⟨k, rfl, hk, j1, hb⟩ := hrel
    have hk3 : k = 0 ∨ k = 1 ∨ k = 2 := by omega
    rcases hk3 with rfl | rfl | rfl
    · obtain ⟨zg_a, zg_b, lg1⟩ := rcell j1
      go_wp2_with fail
      go_wp2_with fail
      refine (c1 _).mono ?_
      rintro e w2 ⟨rfl, hb2⟩
      have f_g2 := kp hb2 (ka (j1) (.cells #[.int .i64 a, .int .i64 b] 148))
      have f_s2 := kp hb2 (na wr #[.int .i64 a, .int .i64 b] 148)
      have hB2 := bB (bA hb (.cells #[.int .i64 a, .int .i64 b] 148)) hb2
      clear zg_a zg_b
      obtain ⟨zg_a, zg_b, lg2⟩ := rcell f_g2
      obtain ⟨zs_a, zs_b, ls2⟩ := rcell f_s2
      go_wp2
      go_roundw
      case rel => exact ⟨1, by go_num, by omega, (f_g2), hB2⟩
      case measure => simp [intOf]
    · obtain ⟨zg_a, zg_b, lg3⟩ := rcell j1
      go_wp2_with fail
      go_wp2_with fail
      refine (c2 _).mono ?_
      rintro e w4 ⟨rfl, hb4⟩
      have f_g4 := kp hb4 (ka (j1) (.cells #[.int .i64 c, .int .i64 d] 148))
      have f_s4 := kp hb4 (na wr #[.int .i64 c, .int .i64 d] 148)
      have hB4 := bB (bA hb (.cells #[.int .i64 c, .int .i64 d] 148)) hb4
      clear zg_a zg_b
      obtain ⟨zg_a, zg_b, lg4⟩ := rcell f_g4
      obtain ⟨zs_a, zs_b, ls4⟩ := rcell f_s4
      go_wp2
      go_roundw
      case rel => exact ⟨2, by go_num, by omega, (f_g4), hB4⟩
      case measure => simp [intOf]
    · go_wp2
      go_ret
      exact ⟨rfl, hb⟩
end Go.Proofs.YtpimkigbdjfjoaaDoor
