/- FsumLines (yearbooklaw06): its walk. -/
import Derived.Test.YtlgjapjcdpikeaaRef17
import Derived.Test.YtlgjapjcdpikeaaFsum7
import Derived.Test.YtlgjapjcdpikeaaFrame
set_option linter.unusedSimpArgs false
set_option linter.unusedVariables false
namespace Go.Proofs.Ytlgjapjcdpikeaa
open Go.RowKit

set_option maxRecDepth 100000 in
set_option maxHeartbeats 2000000 in
theorem fsum_Line_is (A R N D f s n : Int) (h : ¬ isB A R N D = true) (w : World) :
    Calls Try.prog 45 #[.agg #[.int .i64 A, .int .i64 R, .int .i64 N, .int .i64 D], .int .i64 f, .int .i64 s, .int .i64 n] w fun e w' => e = .returned (.tuple #[.agg #[.int .i64 0, .int .u64 0], .int .i64 150]) ∧ Below w.heap.size w w' := by
  have c1 := line_Check A R N D
  rw [if_neg h] at c1
  clear h
  go_enter Try.func45, Try.ntmps45
  go_wp2_with fail
  refine (c1 _).mono ?_
  rintro e w1 ⟨rfl, hb1⟩
  have f_l1 := kp hb1 (ka (na w #[.int .i64 A, .int .i64 R, .int .i64 N, .int .i64 D] 23) (.cells #[.int .i64 0, .int .u64 0] 46))
  have f_o1 := kp hb1 (na1 w (.cells #[.int .i64 A, .int .i64 R, .int .i64 N, .int .i64 D] 23) #[.int .i64 0, .int .u64 0] 46)
  have hB1 := bB (bA (bA (b0 w) (.cells #[.int .i64 A, .int .i64 R, .int .i64 N, .int .i64 D] 23)) (.cells #[.int .i64 0, .int .u64 0] 46)) hb1
  obtain ⟨zl_a, zl_b, ll1⟩ := rcell f_l1
  obtain ⟨zo_a, zo_b, lo1⟩ := rcell f_o1
  go_wp2_with fail
  (rw [row2 (f_o1)]; generalize hT : setRow _ _ _ = wE; obtain ⟨hbE, hgE⟩ := ret_row hB1 (by omega) (f_o1) hT; have zE := (rcell hgE).1; clear hT; refine bodyPost_ret (by simp [results, Try.results45, go_sem, zE]; try rfl) rfl ?_)
  exact ⟨rfl, hbE⟩

set_option maxRecDepth 100000 in
set_option maxHeartbeats 2000000 in
theorem fsum_Line_arg (A R N D f s n : Int) (h : isB A R N D = true) (hn : ¬ (0 ≤ n ∧ n ≤ 256 ∧ 0 ≤ f ∧ f ≤ 281474976710656 ∧ 0 ≤ s ∧ s ≤ 281474976710656)) (w : World) :
    Calls Try.prog 45 #[.agg #[.int .i64 A, .int .i64 R, .int .i64 N, .int .i64 D], .int .i64 f, .int .i64 s, .int .i64 n] w fun e w' => e = .returned (.tuple #[.agg #[.int .i64 0, .int .u64 0], .int .i64 2]) ∧ Below w.heap.size w w' := by
  have c1 := line_Check A R N D
  rw [if_pos h] at c1
  clear h
  rcases (show (n < 0) ∨ (¬ (n < 0) ∧ 256 < n) ∨ (¬ (n < 0) ∧ ¬ (256 < n) ∧ f < 0) ∨ (¬ (n < 0) ∧ ¬ (256 < n) ∧ ¬ (f < 0) ∧ 281474976710656 < f) ∨ (¬ (n < 0) ∧ ¬ (256 < n) ∧ ¬ (f < 0) ∧ ¬ (281474976710656 < f) ∧ s < 0) ∨ (¬ (n < 0) ∧ ¬ (256 < n) ∧ ¬ (f < 0) ∧ ¬ (281474976710656 < f) ∧ ¬ (s < 0) ∧ 281474976710656 < s) by omega) with k0 | ⟨k0, k1⟩ | ⟨k0, k1, k2⟩ | ⟨k0, k1, k2, k3⟩ | ⟨k0, k1, k2, k3, k4⟩ | ⟨k0, k1, k2, k3, k4, k5⟩
  · clear hn
    go_enter Try.func45, Try.ntmps45
    go_wp2_with fail
    refine (c1 _).mono ?_
    rintro e w1 ⟨rfl, hb1⟩
    have f_l1 := kp hb1 (ka (na w #[.int .i64 A, .int .i64 R, .int .i64 N, .int .i64 D] 23) (.cells #[.int .i64 0, .int .u64 0] 46))
    have f_o1 := kp hb1 (na1 w (.cells #[.int .i64 A, .int .i64 R, .int .i64 N, .int .i64 D] 23) #[.int .i64 0, .int .u64 0] 46)
    have hB1 := bB (bA (bA (b0 w) (.cells #[.int .i64 A, .int .i64 R, .int .i64 N, .int .i64 D] 23)) (.cells #[.int .i64 0, .int .u64 0] 46)) hb1
    obtain ⟨zl_a, zl_b, ll1⟩ := rcell f_l1
    obtain ⟨zo_a, zo_b, lo1⟩ := rcell f_o1
    go_wp2_with fail
    (rw [row2 (f_o1)]; generalize hT : setRow _ _ _ = wE; obtain ⟨hbE, hgE⟩ := ret_row hB1 (by omega) (f_o1) hT; have zE := (rcell hgE).1; clear hT; refine bodyPost_ret (by simp [results, Try.results45, go_sem, zE]; try rfl) rfl ?_)
    exact ⟨rfl, hbE⟩
  · clear hn
    go_enter Try.func45, Try.ntmps45
    go_wp2_with fail
    refine (c1 _).mono ?_
    rintro e w1 ⟨rfl, hb1⟩
    have f_l1 := kp hb1 (ka (na w #[.int .i64 A, .int .i64 R, .int .i64 N, .int .i64 D] 23) (.cells #[.int .i64 0, .int .u64 0] 46))
    have f_o1 := kp hb1 (na1 w (.cells #[.int .i64 A, .int .i64 R, .int .i64 N, .int .i64 D] 23) #[.int .i64 0, .int .u64 0] 46)
    have hB1 := bB (bA (bA (b0 w) (.cells #[.int .i64 A, .int .i64 R, .int .i64 N, .int .i64 D] 23)) (.cells #[.int .i64 0, .int .u64 0] 46)) hb1
    obtain ⟨zl_a, zl_b, ll1⟩ := rcell f_l1
    obtain ⟨zo_a, zo_b, lo1⟩ := rcell f_o1
    go_wp2_with fail
    (rw [row2 (f_o1)]; generalize hT : setRow _ _ _ = wE; obtain ⟨hbE, hgE⟩ := ret_row hB1 (by omega) (f_o1) hT; have zE := (rcell hgE).1; clear hT; refine bodyPost_ret (by simp [results, Try.results45, go_sem, zE]; try rfl) rfl ?_)
    exact ⟨rfl, hbE⟩
  · clear hn
    go_enter Try.func45, Try.ntmps45
    go_wp2_with fail
    refine (c1 _).mono ?_
    rintro e w1 ⟨rfl, hb1⟩
    have f_l1 := kp hb1 (ka (na w #[.int .i64 A, .int .i64 R, .int .i64 N, .int .i64 D] 23) (.cells #[.int .i64 0, .int .u64 0] 46))
    have f_o1 := kp hb1 (na1 w (.cells #[.int .i64 A, .int .i64 R, .int .i64 N, .int .i64 D] 23) #[.int .i64 0, .int .u64 0] 46)
    have hB1 := bB (bA (bA (b0 w) (.cells #[.int .i64 A, .int .i64 R, .int .i64 N, .int .i64 D] 23)) (.cells #[.int .i64 0, .int .u64 0] 46)) hb1
    obtain ⟨zl_a, zl_b, ll1⟩ := rcell f_l1
    obtain ⟨zo_a, zo_b, lo1⟩ := rcell f_o1
    go_wp2_with fail
    (rw [row2 (f_o1)]; generalize hT : setRow _ _ _ = wE; obtain ⟨hbE, hgE⟩ := ret_row hB1 (by omega) (f_o1) hT; have zE := (rcell hgE).1; clear hT; refine bodyPost_ret (by simp [results, Try.results45, go_sem, zE]; try rfl) rfl ?_)
    exact ⟨rfl, hbE⟩
  · clear hn
    go_enter Try.func45, Try.ntmps45
    go_wp2_with fail
    refine (c1 _).mono ?_
    rintro e w1 ⟨rfl, hb1⟩
    have f_l1 := kp hb1 (ka (na w #[.int .i64 A, .int .i64 R, .int .i64 N, .int .i64 D] 23) (.cells #[.int .i64 0, .int .u64 0] 46))
    have f_o1 := kp hb1 (na1 w (.cells #[.int .i64 A, .int .i64 R, .int .i64 N, .int .i64 D] 23) #[.int .i64 0, .int .u64 0] 46)
    have hB1 := bB (bA (bA (b0 w) (.cells #[.int .i64 A, .int .i64 R, .int .i64 N, .int .i64 D] 23)) (.cells #[.int .i64 0, .int .u64 0] 46)) hb1
    obtain ⟨zl_a, zl_b, ll1⟩ := rcell f_l1
    obtain ⟨zo_a, zo_b, lo1⟩ := rcell f_o1
    go_wp2_with fail
    (rw [row2 (f_o1)]; generalize hT : setRow _ _ _ = wE; obtain ⟨hbE, hgE⟩ := ret_row hB1 (by omega) (f_o1) hT; have zE := (rcell hgE).1; clear hT; refine bodyPost_ret (by simp [results, Try.results45, go_sem, zE]; try rfl) rfl ?_)
    exact ⟨rfl, hbE⟩
  · clear hn
    go_enter Try.func45, Try.ntmps45
    go_wp2_with fail
    refine (c1 _).mono ?_
    rintro e w1 ⟨rfl, hb1⟩
    have f_l1 := kp hb1 (ka (na w #[.int .i64 A, .int .i64 R, .int .i64 N, .int .i64 D] 23) (.cells #[.int .i64 0, .int .u64 0] 46))
    have f_o1 := kp hb1 (na1 w (.cells #[.int .i64 A, .int .i64 R, .int .i64 N, .int .i64 D] 23) #[.int .i64 0, .int .u64 0] 46)
    have hB1 := bB (bA (bA (b0 w) (.cells #[.int .i64 A, .int .i64 R, .int .i64 N, .int .i64 D] 23)) (.cells #[.int .i64 0, .int .u64 0] 46)) hb1
    obtain ⟨zl_a, zl_b, ll1⟩ := rcell f_l1
    obtain ⟨zo_a, zo_b, lo1⟩ := rcell f_o1
    go_wp2_with fail
    (rw [row2 (f_o1)]; generalize hT : setRow _ _ _ = wE; obtain ⟨hbE, hgE⟩ := ret_row hB1 (by omega) (f_o1) hT; have zE := (rcell hgE).1; clear hT; refine bodyPost_ret (by simp [results, Try.results45, go_sem, zE]; try rfl) rfl ?_)
    exact ⟨rfl, hbE⟩
  · clear hn
    go_enter Try.func45, Try.ntmps45
    go_wp2_with fail
    refine (c1 _).mono ?_
    rintro e w1 ⟨rfl, hb1⟩
    have f_l1 := kp hb1 (ka (na w #[.int .i64 A, .int .i64 R, .int .i64 N, .int .i64 D] 23) (.cells #[.int .i64 0, .int .u64 0] 46))
    have f_o1 := kp hb1 (na1 w (.cells #[.int .i64 A, .int .i64 R, .int .i64 N, .int .i64 D] 23) #[.int .i64 0, .int .u64 0] 46)
    have hB1 := bB (bA (bA (b0 w) (.cells #[.int .i64 A, .int .i64 R, .int .i64 N, .int .i64 D] 23)) (.cells #[.int .i64 0, .int .u64 0] 46)) hb1
    obtain ⟨zl_a, zl_b, ll1⟩ := rcell f_l1
    obtain ⟨zo_a, zo_b, lo1⟩ := rcell f_o1
    go_wp2_with fail
    (rw [row2 (f_o1)]; generalize hT : setRow _ _ _ = wE; obtain ⟨hbE, hgE⟩ := ret_row hB1 (by omega) (f_o1) hT; have zE := (rcell hgE).1; clear hT; refine bodyPost_ret (by simp [results, Try.results45, go_sem, zE]; try rfl) rfl ?_)
    exact ⟨rfl, hbE⟩

set_option maxRecDepth 100000 in
set_option maxHeartbeats 2000000 in
theorem fsum_Line_far (A R N D f s n x : Int) (h : isB A R N D = true) (n0 : 0 < n) (n1 : n ≤ 256) (f0 : 0 ≤ f) (f1 : f ≤ 281474976710656) (s0 : 0 ≤ s) (s1 : s ≤ 281474976710656) (hx : (n - 1) * s = x) (x0 : 0 ≤ x) (x1 : x ≤ 72057594037927936) (hf : 281474976710656 - f < x) (w : World) :
    Calls Try.prog 45 #[.agg #[.int .i64 A, .int .i64 R, .int .i64 N, .int .i64 D], .int .i64 f, .int .i64 s, .int .i64 n] w fun e w' => e = .returned (.tuple #[.agg #[.int .i64 0, .int .u64 0], .int .i64 2]) ∧ Below w.heap.size w w' := by
  have c1 := line_Check A R N D
  rw [if_pos h] at c1
  clear h
  go_enter Try.func45, Try.ntmps45
  go_wp2_with fail
  refine (c1 _).mono ?_
  rintro e w1 ⟨rfl, hb1⟩
  have f_l1 := kp hb1 (ka (na w #[.int .i64 A, .int .i64 R, .int .i64 N, .int .i64 D] 23) (.cells #[.int .i64 0, .int .u64 0] 46))
  have f_o1 := kp hb1 (na1 w (.cells #[.int .i64 A, .int .i64 R, .int .i64 N, .int .i64 D] 23) #[.int .i64 0, .int .u64 0] 46)
  have hB1 := bB (bA (bA (b0 w) (.cells #[.int .i64 A, .int .i64 R, .int .i64 N, .int .i64 D] 23)) (.cells #[.int .i64 0, .int .u64 0] 46)) hb1
  obtain ⟨zl_a, zl_b, ll1⟩ := rcell f_l1
  obtain ⟨zo_a, zo_b, lo1⟩ := rcell f_o1
  go_wp2_with fail
  (rw [row2 (f_o1)]; generalize hT : setRow _ _ _ = wE; obtain ⟨hbE, hgE⟩ := ret_row hB1 (by omega) (f_o1) hT; have zE := (rcell hgE).1; clear hT; refine bodyPost_ret (by simp [results, Try.results45, go_sem, zE]; try rfl) rfl ?_)
  exact ⟨rfl, hbE⟩

set_option maxRecDepth 100000 in
set_option maxHeartbeats 2000000 in
theorem lines_any (A R N D f s n H L er : Int) (c1 : ∀ w, Calls Try.prog 45 #[.agg #[.int .i64 A, .int .i64 R, .int .i64 N, .int .i64 D], .int .i64 f, .int .i64 s, .int .i64 n] w fun e w' => e = .returned (.tuple #[.agg #[.int .i64 H, .int .u64 L], .int .i64 er]) ∧ Below w.heap.size w w') (c2 : ∀ w, Calls Try.prog 46 #[.agg #[.int .i64 A, .int .i64 R, .int .i64 N, .int .i64 D], .int .i64 f, .int .i64 s, .int .i64 n] w fun e w' => e = .returned (.tuple #[.agg #[.int .i64 H, .int .u64 L], .int .i64 er]) ∧ Below w.heap.size w w') (w : World) :
    Calls Try.prog 12 #[.agg #[.int .i64 A, .int .i64 R, .int .i64 N, .int .i64 D], .agg #[.int .i64 f, .int .i64 s, .int .i64 n]] w fun e w' => e = .returned (.bool true) ∧ Below w.heap.size w w' := by
  go_enter Try.func12, Try.ntmps12
  go_wp2_with fail
  refine (wakes6 _).mono ?_
  rintro e w1 ⟨rfl, hb1⟩
  have f_l1 := kp hb1 (ka (na w #[.int .i64 A, .int .i64 R, .int .i64 N, .int .i64 D] 23) (.cells #[.int .i64 f, .int .i64 s, .int .i64 n] 76))
  have f_x1 := kp hb1 (na1 w (.cells #[.int .i64 A, .int .i64 R, .int .i64 N, .int .i64 D] 23) #[.int .i64 f, .int .i64 s, .int .i64 n] 76)
  have hB1 := bB (bA (bA (b0 w) (.cells #[.int .i64 A, .int .i64 R, .int .i64 N, .int .i64 D] 23)) (.cells #[.int .i64 f, .int .i64 s, .int .i64 n] 76)) hb1
  obtain ⟨zl_a, zl_b, ll1⟩ := rcell f_l1
  obtain ⟨zx_a, zx_b, lx1⟩ := rcell f_x1
  go_wp2_with fail
  refine (c1 _).mono ?_
  rintro e w2 ⟨rfl, hb2⟩
  have f_l2 := kp hb2 (f_l1)
  have f_x2 := kp hb2 (f_x1)
  have hB2 := bB hB1 hb2
  clear zl_a zl_b zx_a zx_b
  obtain ⟨zl_a, zl_b, ll2⟩ := rcell f_l2
  obtain ⟨zx_a, zx_b, lx2⟩ := rcell f_x2
  go_wp2_with fail
  refine (c2 _).mono ?_
  rintro e w3 ⟨rfl, hb3⟩
  have f_l3 := kp hb3 (ka (f_l2) (.cells #[.int .i64 H, .int .u64 L] 46))
  have f_x3 := kp hb3 (ka (f_x2) (.cells #[.int .i64 H, .int .u64 L] 46))
  have f_u3 := kp hb3 (na w2 #[.int .i64 H, .int .u64 L] 46)
  have hB3 := bB (bA hB2 (.cells #[.int .i64 H, .int .u64 L] 46)) hb3
  clear zl_a zl_b zx_a zx_b
  obtain ⟨zl_a, zl_b, ll3⟩ := rcell f_l3
  obtain ⟨zx_a, zx_b, lx3⟩ := rcell f_x3
  obtain ⟨zu_a, zu_b, lu3⟩ := rcell f_u3
  go_wp2
  go_ret
  exact ⟨by simp, (bA hB3 (.cells #[.int .i64 H, .int .u64 L] 46))⟩

theorem fsum_lines (A R N D f s n : Int) (w : World) :
    Calls Try.prog 12 #[.agg #[.int .i64 A, .int .i64 R, .int .i64 N, .int .i64 D], .agg #[.int .i64 f, .int .i64 s, .int .i64 n]] w fun e w' => e = .returned (.bool true) ∧ Below w.heap.size w w' := by
  by_cases h : isB A R N D = true
  case neg =>
    exact lines_any A R N D f s n 0 0 150 (fsum_Line_is A R N D f s n h) (ref6_Line_is A R N D f s n (by simpa using h)) w
  by_cases hn : 0 ≤ n ∧ n ≤ 256 ∧ 0 ≤ f ∧ f ≤ 281474976710656 ∧ 0 ≤ s ∧ s ≤ 281474976710656
  case neg =>
    exact lines_any A R N D f s n 0 0 2 (fsum_Line_arg A R N D f s n h hn) (ref6_Line_arg A R N D f s n h hn) w
  obtain ⟨n0, n1, f0, f1, s0, s1⟩ := hn
  by_cases hf : 0 < n ∧ 281474976710656 - f < (n - 1) * s
  · have x0 : 0 ≤ (n - 1) * s := Int.mul_nonneg (by omega) s0
    have x1 : (n - 1) * s ≤ 256 * 281474976710656 := Int.mul_le_mul (by omega) s1 s0 (by omega)
    exact lines_any A R N D f s n 0 0 2 (fsum_Line_far A R N D f s n _ h hf.1 n1 f0 f1 s0 s1 rfl x0 (by omega) hf.2) (fun w => ref6_Line_ok A R N D f s n h n0 n1 f0 f1 s0 s1 _ (.inl ⟨hf.1, hf.2, rfl⟩) w) w
  · have hx2 : 0 < n → (n - 1) * s ≤ 281474976710656 - f := fun h0 => by
      have h3 : ¬ 281474976710656 - f < (n - 1) * s := fun h2 => hf ⟨h0, h2⟩
      omega
    exact lines_any A R N D f s n _ _ 0 (fsum_Line A R N D f s n h n0 n1 f0 f1 s0 s1 hx2) (fun w => ref6_Line_ok A R N D f s n h n0 n1 f0 f1 s0 s1 _ (.inr ⟨hx2, rfl⟩) w) w
end Go.Proofs.Ytlgjapjcdpikeaa
