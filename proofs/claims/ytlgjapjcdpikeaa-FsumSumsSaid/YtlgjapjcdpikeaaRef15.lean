/- yearbookref06 at this program: Right, Sum. -/
import Derived.Test.YtlgjapjcdpikeaaRef14
import Derived.Test.YtlgjapjcdpikeaaFsum6
set_option linter.unusedSimpArgs false
set_option linter.unusedVariables false
namespace Go.Proofs.Ytlgjapjcdpikeaa
open Go.RowKit

set_option maxRecDepth 100000 in
set_option maxHeartbeats 2000000 in
theorem ref6_Right_1 (n a b m : Int) (ra : Rng a) (rb : Rng b) (h1 : n < 0) (w : World) :
    Calls Try.prog 43 #[.int .i64 n, .agg #[.int .i64 (hi a), .int .u64 (lo a)], .agg #[.int .i64 (hi b), .int .u64 (lo b)], .int .i64 m] w fun e w' => e = .returned (.bool false) ∧ Below w.heap.size w w' := by
  go_enter Try.func43, Try.ntmps43
  go_wp2
  go_ret
  exact ⟨by first | (simp; done) | (simp; omega), (bA (bA (b0 w) (.cells #[.int .i64 (hi a), .int .u64 (lo a)] 46)) (.cells #[.int .i64 (hi b), .int .u64 (lo b)] 46))⟩

set_option maxRecDepth 100000 in
set_option maxHeartbeats 2000000 in
theorem ref6_Right_2 (n a b m : Int) (ra : Rng a) (rb : Rng b) (h1 : 0 ≤ n) (h2 : 256 < n) (w : World) :
    Calls Try.prog 43 #[.int .i64 n, .agg #[.int .i64 (hi a), .int .u64 (lo a)], .agg #[.int .i64 (hi b), .int .u64 (lo b)], .int .i64 m] w fun e w' => e = .returned (.bool false) ∧ Below w.heap.size w w' := by
  go_enter Try.func43, Try.ntmps43
  go_wp2
  go_ret
  exact ⟨by first | (simp; done) | (simp; omega), (bA (bA (b0 w) (.cells #[.int .i64 (hi a), .int .u64 (lo a)] 46)) (.cells #[.int .i64 (hi b), .int .u64 (lo b)] 46))⟩

set_option maxRecDepth 100000 in
set_option maxHeartbeats 2000000 in
theorem ref6_Right_3 (n a b m : Int) (ra : Rng a) (rb : Rng b) (h1 : 0 ≤ n) (h2 : n ≤ 256) (hA : trB a = false) (w : World) :
    Calls Try.prog 43 #[.int .i64 n, .agg #[.int .i64 (hi a), .int .u64 (lo a)], .agg #[.int .i64 (hi b), .int .u64 (lo b)], .int .i64 m] w fun e w' => e = .returned (.bool false) ∧ Below w.heap.size w w' := by
  have cA := ref_Term a ra
  rw [hA] at cA
  go_enter Try.func43, Try.ntmps43
  go_wp2_with fail
  refine (cA _).mono ?_
  rintro e w1 ⟨rfl, hb1⟩
  have f_u1 := kp hb1 (ka (na w #[.int .i64 (hi a), .int .u64 (lo a)] 46) (.cells #[.int .i64 (hi b), .int .u64 (lo b)] 46))
  have f_v1 := kp hb1 (na1 w (.cells #[.int .i64 (hi a), .int .u64 (lo a)] 46) #[.int .i64 (hi b), .int .u64 (lo b)] 46)
  have hB1 := bB (bA (bA (b0 w) (.cells #[.int .i64 (hi a), .int .u64 (lo a)] 46)) (.cells #[.int .i64 (hi b), .int .u64 (lo b)] 46)) hb1
  obtain ⟨zu_a, zu_b, lu1⟩ := rcell f_u1
  obtain ⟨zv_a, zv_b, lv1⟩ := rcell f_v1
  go_wp2
  go_ret
  exact ⟨by first | (simp; done) | (simp; omega), hB1⟩

set_option maxRecDepth 100000 in
set_option maxHeartbeats 2000000 in
theorem ref6_Right_4 (n a b m : Int) (ra : Rng a) (rb : Rng b) (h1 : 0 ≤ n) (h2 : n ≤ 256) (hA : trB a = true) (hB : trB b = false) (w : World) :
    Calls Try.prog 43 #[.int .i64 n, .agg #[.int .i64 (hi a), .int .u64 (lo a)], .agg #[.int .i64 (hi b), .int .u64 (lo b)], .int .i64 m] w fun e w' => e = .returned (.bool false) ∧ Below w.heap.size w w' := by
  have cA := ref_Term a ra
  rw [hA] at cA
  have cB := ref_Term b rb
  rw [hB] at cB
  go_enter Try.func43, Try.ntmps43
  go_wp2_with fail
  refine (cA _).mono ?_
  rintro e w1 ⟨rfl, hb1⟩
  have f_u1 := kp hb1 (ka (na w #[.int .i64 (hi a), .int .u64 (lo a)] 46) (.cells #[.int .i64 (hi b), .int .u64 (lo b)] 46))
  have f_v1 := kp hb1 (na1 w (.cells #[.int .i64 (hi a), .int .u64 (lo a)] 46) #[.int .i64 (hi b), .int .u64 (lo b)] 46)
  have hB1 := bB (bA (bA (b0 w) (.cells #[.int .i64 (hi a), .int .u64 (lo a)] 46)) (.cells #[.int .i64 (hi b), .int .u64 (lo b)] 46)) hb1
  obtain ⟨zu_a, zu_b, lu1⟩ := rcell f_u1
  obtain ⟨zv_a, zv_b, lv1⟩ := rcell f_v1
  go_wp2_with fail
  refine (cB _).mono ?_
  rintro e w2 ⟨rfl, hb2⟩
  have f_u2 := kp hb2 (f_u1)
  have f_v2 := kp hb2 (f_v1)
  have hB2 := bB hB1 hb2
  clear zu_a zu_b zv_a zv_b
  obtain ⟨zu_a, zu_b, lu2⟩ := rcell f_u2
  obtain ⟨zv_a, zv_b, lv2⟩ := rcell f_v2
  go_wp2
  go_ret
  exact ⟨by first | (simp; done) | (simp; omega), hB2⟩

set_option maxRecDepth 100000 in
set_option maxHeartbeats 2000000 in
theorem ref6_Right_5 (n a b m : Int) (ra : Rng a) (rb : Rng b) (h1 : 0 ≤ n) (h2 : n ≤ 256) (hA : trB a = true) (hB : trB b = true) (h3 : m < 1) (w : World) :
    Calls Try.prog 43 #[.int .i64 n, .agg #[.int .i64 (hi a), .int .u64 (lo a)], .agg #[.int .i64 (hi b), .int .u64 (lo b)], .int .i64 m] w fun e w' => e = .returned (.bool false) ∧ Below w.heap.size w w' := by
  have cA := ref_Term a ra
  rw [hA] at cA
  have cB := ref_Term b rb
  rw [hB] at cB
  go_enter Try.func43, Try.ntmps43
  go_wp2_with fail
  refine (cA _).mono ?_
  rintro e w1 ⟨rfl, hb1⟩
  have f_u1 := kp hb1 (ka (na w #[.int .i64 (hi a), .int .u64 (lo a)] 46) (.cells #[.int .i64 (hi b), .int .u64 (lo b)] 46))
  have f_v1 := kp hb1 (na1 w (.cells #[.int .i64 (hi a), .int .u64 (lo a)] 46) #[.int .i64 (hi b), .int .u64 (lo b)] 46)
  have hB1 := bB (bA (bA (b0 w) (.cells #[.int .i64 (hi a), .int .u64 (lo a)] 46)) (.cells #[.int .i64 (hi b), .int .u64 (lo b)] 46)) hb1
  obtain ⟨zu_a, zu_b, lu1⟩ := rcell f_u1
  obtain ⟨zv_a, zv_b, lv1⟩ := rcell f_v1
  go_wp2_with fail
  refine (cB _).mono ?_
  rintro e w2 ⟨rfl, hb2⟩
  have f_u2 := kp hb2 (f_u1)
  have f_v2 := kp hb2 (f_v1)
  have hB2 := bB hB1 hb2
  clear zu_a zu_b zv_a zv_b
  obtain ⟨zu_a, zu_b, lu2⟩ := rcell f_u2
  obtain ⟨zv_a, zv_b, lv2⟩ := rcell f_v2
  go_wp2
  go_ret
  exact ⟨by first | (simp; done) | (simp; omega), hB2⟩

set_option maxRecDepth 100000 in
set_option maxHeartbeats 2000000 in
theorem ref6_Right_6 (n a b m : Int) (ra : Rng a) (rb : Rng b) (h1 : 0 ≤ n) (h2 : n ≤ 256) (hA : trB a = true) (hB : trB b = true) (h3 : 1 ≤ m) (h4 : 281474976710656 < m) (w : World) :
    Calls Try.prog 43 #[.int .i64 n, .agg #[.int .i64 (hi a), .int .u64 (lo a)], .agg #[.int .i64 (hi b), .int .u64 (lo b)], .int .i64 m] w fun e w' => e = .returned (.bool false) ∧ Below w.heap.size w w' := by
  have cA := ref_Term a ra
  rw [hA] at cA
  have cB := ref_Term b rb
  rw [hB] at cB
  go_enter Try.func43, Try.ntmps43
  go_wp2_with fail
  refine (cA _).mono ?_
  rintro e w1 ⟨rfl, hb1⟩
  have f_u1 := kp hb1 (ka (na w #[.int .i64 (hi a), .int .u64 (lo a)] 46) (.cells #[.int .i64 (hi b), .int .u64 (lo b)] 46))
  have f_v1 := kp hb1 (na1 w (.cells #[.int .i64 (hi a), .int .u64 (lo a)] 46) #[.int .i64 (hi b), .int .u64 (lo b)] 46)
  have hB1 := bB (bA (bA (b0 w) (.cells #[.int .i64 (hi a), .int .u64 (lo a)] 46)) (.cells #[.int .i64 (hi b), .int .u64 (lo b)] 46)) hb1
  obtain ⟨zu_a, zu_b, lu1⟩ := rcell f_u1
  obtain ⟨zv_a, zv_b, lv1⟩ := rcell f_v1
  go_wp2_with fail
  refine (cB _).mono ?_
  rintro e w2 ⟨rfl, hb2⟩
  have f_u2 := kp hb2 (f_u1)
  have f_v2 := kp hb2 (f_v1)
  have hB2 := bB hB1 hb2
  clear zu_a zu_b zv_a zv_b
  obtain ⟨zu_a, zu_b, lu2⟩ := rcell f_u2
  obtain ⟨zv_a, zv_b, lv2⟩ := rcell f_v2
  go_wp2
  go_ret
  exact ⟨by first | (simp; done) | (simp; omega), hB2⟩

set_option maxRecDepth 100000 in
set_option maxHeartbeats 2000000 in
theorem ref6_Right_7 (n a b m : Int) (ra : Rng a) (rb : Rng b) (h1 : 0 ≤ n) (h2 : n ≤ 256) (hA : trB a = true) (hB : trB b = true) (h3 : 1 ≤ m) (h4 : m ≤ 281474976710656) (w : World) :
    Calls Try.prog 43 #[.int .i64 n, .agg #[.int .i64 (hi a), .int .u64 (lo a)], .agg #[.int .i64 (hi b), .int .u64 (lo b)], .int .i64 m] w fun e w' => e = .returned (.bool true) ∧ Below w.heap.size w w' := by
  have cA := ref_Term a ra
  rw [hA] at cA
  have cB := ref_Term b rb
  rw [hB] at cB
  go_enter Try.func43, Try.ntmps43
  go_wp2_with fail
  refine (cA _).mono ?_
  rintro e w1 ⟨rfl, hb1⟩
  have f_u1 := kp hb1 (ka (na w #[.int .i64 (hi a), .int .u64 (lo a)] 46) (.cells #[.int .i64 (hi b), .int .u64 (lo b)] 46))
  have f_v1 := kp hb1 (na1 w (.cells #[.int .i64 (hi a), .int .u64 (lo a)] 46) #[.int .i64 (hi b), .int .u64 (lo b)] 46)
  have hB1 := bB (bA (bA (b0 w) (.cells #[.int .i64 (hi a), .int .u64 (lo a)] 46)) (.cells #[.int .i64 (hi b), .int .u64 (lo b)] 46)) hb1
  obtain ⟨zu_a, zu_b, lu1⟩ := rcell f_u1
  obtain ⟨zv_a, zv_b, lv1⟩ := rcell f_v1
  go_wp2_with fail
  refine (cB _).mono ?_
  rintro e w2 ⟨rfl, hb2⟩
  have f_u2 := kp hb2 (f_u1)
  have f_v2 := kp hb2 (f_v1)
  have hB2 := bB hB1 hb2
  clear zu_a zu_b zv_a zv_b
  obtain ⟨zu_a, zu_b, lu2⟩ := rcell f_u2
  obtain ⟨zv_a, zv_b, lv2⟩ := rcell f_v2
  go_wp2
  go_ret
  exact ⟨by first | (simp; done) | (simp; omega), hB2⟩

theorem ref6_Right_no (n a b m : Int) (ra : Rng a) (rb : Rng b) (h : ¬ RowOk n a b m) (w : World) :
    Calls Try.prog 43 #[.int .i64 n, .agg #[.int .i64 (hi a), .int .u64 (lo a)], .agg #[.int .i64 (hi b), .int .u64 (lo b)], .int .i64 m] w fun e w' => e = .returned (.bool false) ∧ Below w.heap.size w w' := by
  rcases row_no h with h1 | ⟨h1, h2⟩ | ⟨h1, h2, h3⟩ | ⟨h1, h2, h3, h4⟩ | ⟨h1, h2, h3, h4, h5⟩ | ⟨h1, h2, h3, h4, h5, h6⟩
  · exact ref6_Right_1 n a b m ra rb h1 w
  · exact ref6_Right_2 n a b m ra rb h1 h2 w
  · exact ref6_Right_3 n a b m ra rb h1 h2 h3 w
  · exact ref6_Right_4 n a b m ra rb h1 h2 h3 h4 w
  · exact ref6_Right_5 n a b m ra rb h1 h2 h3 h4 h5 w
  · exact ref6_Right_6 n a b m ra rb h1 h2 h3 h4 h5 h6 w
theorem ref6_Right_yes (n a b m : Int) (ra : Rng a) (rb : Rng b) (h : RowOk n a b m) (w : World) :
    Calls Try.prog 43 #[.int .i64 n, .agg #[.int .i64 (hi a), .int .u64 (lo a)], .agg #[.int .i64 (hi b), .int .u64 (lo b)], .int .i64 m] w fun e w' => e = .returned (.bool true) ∧ Below w.heap.size w w' := by
  obtain ⟨g1, g2, g3, g4, g5, g6, g7, g8⟩ := h
  exact ref6_Right_7 n a b m ra rb (by omega) (by omega) (decide_eq_true ⟨by omega, by omega⟩) (decide_eq_true ⟨by omega, by omega⟩) (by omega) (by omega) w
end Go.Proofs.Ytlgjapjcdpikeaa
