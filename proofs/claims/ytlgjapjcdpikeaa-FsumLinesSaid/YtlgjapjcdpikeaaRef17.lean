/- yearbookref06.Line at this program. -/
import Derived.Test.YtlgjapjcdpikeaaRef12
import Derived.Test.YtlgjapjcdpikeaaRef16
set_option linter.unusedSimpArgs false
set_option linter.unusedVariables false
namespace Go.Proofs.Ytlgjapjcdpikeaa
open Go.RowKit

set_option maxRecDepth 100000 in
set_option maxHeartbeats 2000000 in
theorem ref6_Line_is (A R N D f s n : Int) (h : isB A R N D = false) (w : World) :
    Calls Try.prog 46 #[.agg #[.int .i64 A, .int .i64 R, .int .i64 N, .int .i64 D], .int .i64 f, .int .i64 s, .int .i64 n] w fun e w' => e = .returned (.tuple #[.agg #[.int .i64 0, .int .u64 0], .int .i64 150]) ∧ Below w.heap.size w w' := by
  have c1 := ref_Right A R N D
  rw [h] at c1
  clear h
  go_enter Try.func46, Try.ntmps46
  go_wp2_with fail
  refine (c1 _).mono ?_
  rintro e w1 ⟨rfl, hb1⟩
  have f_l1 := kp hb1 (ka (na w #[.int .i64 A, .int .i64 R, .int .i64 N, .int .i64 D] 23) (.cells #[.int .i64 0, .int .u64 0] 46))
  have f_o1 := kp hb1 (na1 w (.cells #[.int .i64 A, .int .i64 R, .int .i64 N, .int .i64 D] 23) #[.int .i64 0, .int .u64 0] 46)
  have hB1 := bB (bA (bA (b0 w) (.cells #[.int .i64 A, .int .i64 R, .int .i64 N, .int .i64 D] 23)) (.cells #[.int .i64 0, .int .u64 0] 46)) hb1
  obtain ⟨zl_a, zl_b, ll1⟩ := rcell f_l1
  obtain ⟨zo_a, zo_b, lo1⟩ := rcell f_o1
  go_wp2_with fail
  (rw [row2 (f_o1)]; generalize hT : setRow _ _ _ = wE; obtain ⟨hbE, hgE⟩ := ret_row hB1 (by omega) (f_o1) hT; have zE := (rcell hgE).1; clear hT; refine bodyPost_ret (by simp [results, Try.results46, go_sem, zE]; try rfl) rfl ?_)
  exact ⟨rfl, hbE⟩

set_option maxRecDepth 100000 in
set_option maxHeartbeats 2000000 in
theorem ref6_Line_arg (A R N D f s n : Int) (h : isB A R N D = true) (hn : ¬ (0 ≤ n ∧ n ≤ 256 ∧ 0 ≤ f ∧ f ≤ 281474976710656 ∧ 0 ≤ s ∧ s ≤ 281474976710656)) (w : World) :
    Calls Try.prog 46 #[.agg #[.int .i64 A, .int .i64 R, .int .i64 N, .int .i64 D], .int .i64 f, .int .i64 s, .int .i64 n] w fun e w' => e = .returned (.tuple #[.agg #[.int .i64 0, .int .u64 0], .int .i64 2]) ∧ Below w.heap.size w w' := by
  have c1 := ref_Right A R N D
  rw [h] at c1
  clear h
  rcases (show (n < 0) ∨ (¬ (n < 0) ∧ 256 < n) ∨ (¬ (n < 0) ∧ ¬ (256 < n) ∧ f < 0) ∨ (¬ (n < 0) ∧ ¬ (256 < n) ∧ ¬ (f < 0) ∧ 281474976710656 < f) ∨ (¬ (n < 0) ∧ ¬ (256 < n) ∧ ¬ (f < 0) ∧ ¬ (281474976710656 < f) ∧ s < 0) ∨ (¬ (n < 0) ∧ ¬ (256 < n) ∧ ¬ (f < 0) ∧ ¬ (281474976710656 < f) ∧ ¬ (s < 0) ∧ 281474976710656 < s) by omega) with k0 | ⟨k0, k1⟩ | ⟨k0, k1, k2⟩ | ⟨k0, k1, k2, k3⟩ | ⟨k0, k1, k2, k3, k4⟩ | ⟨k0, k1, k2, k3, k4, k5⟩
  · clear hn
    go_enter Try.func46, Try.ntmps46
    go_wp2_with fail
    refine (c1 _).mono ?_
    rintro e w1 ⟨rfl, hb1⟩
    have f_l1 := kp hb1 (ka (na w #[.int .i64 A, .int .i64 R, .int .i64 N, .int .i64 D] 23) (.cells #[.int .i64 0, .int .u64 0] 46))
    have f_o1 := kp hb1 (na1 w (.cells #[.int .i64 A, .int .i64 R, .int .i64 N, .int .i64 D] 23) #[.int .i64 0, .int .u64 0] 46)
    have hB1 := bB (bA (bA (b0 w) (.cells #[.int .i64 A, .int .i64 R, .int .i64 N, .int .i64 D] 23)) (.cells #[.int .i64 0, .int .u64 0] 46)) hb1
    obtain ⟨zl_a, zl_b, ll1⟩ := rcell f_l1
    obtain ⟨zo_a, zo_b, lo1⟩ := rcell f_o1
    go_wp2_with fail
    (rw [row2 (f_o1)]; generalize hT : setRow _ _ _ = wE; obtain ⟨hbE, hgE⟩ := ret_row hB1 (by omega) (f_o1) hT; have zE := (rcell hgE).1; clear hT; refine bodyPost_ret (by simp [results, Try.results46, go_sem, zE]; try rfl) rfl ?_)
    exact ⟨rfl, hbE⟩
  · clear hn
    go_enter Try.func46, Try.ntmps46
    go_wp2_with fail
    refine (c1 _).mono ?_
    rintro e w1 ⟨rfl, hb1⟩
    have f_l1 := kp hb1 (ka (na w #[.int .i64 A, .int .i64 R, .int .i64 N, .int .i64 D] 23) (.cells #[.int .i64 0, .int .u64 0] 46))
    have f_o1 := kp hb1 (na1 w (.cells #[.int .i64 A, .int .i64 R, .int .i64 N, .int .i64 D] 23) #[.int .i64 0, .int .u64 0] 46)
    have hB1 := bB (bA (bA (b0 w) (.cells #[.int .i64 A, .int .i64 R, .int .i64 N, .int .i64 D] 23)) (.cells #[.int .i64 0, .int .u64 0] 46)) hb1
    obtain ⟨zl_a, zl_b, ll1⟩ := rcell f_l1
    obtain ⟨zo_a, zo_b, lo1⟩ := rcell f_o1
    go_wp2_with fail
    (rw [row2 (f_o1)]; generalize hT : setRow _ _ _ = wE; obtain ⟨hbE, hgE⟩ := ret_row hB1 (by omega) (f_o1) hT; have zE := (rcell hgE).1; clear hT; refine bodyPost_ret (by simp [results, Try.results46, go_sem, zE]; try rfl) rfl ?_)
    exact ⟨rfl, hbE⟩
  · clear hn
    go_enter Try.func46, Try.ntmps46
    go_wp2_with fail
    refine (c1 _).mono ?_
    rintro e w1 ⟨rfl, hb1⟩
    have f_l1 := kp hb1 (ka (na w #[.int .i64 A, .int .i64 R, .int .i64 N, .int .i64 D] 23) (.cells #[.int .i64 0, .int .u64 0] 46))
    have f_o1 := kp hb1 (na1 w (.cells #[.int .i64 A, .int .i64 R, .int .i64 N, .int .i64 D] 23) #[.int .i64 0, .int .u64 0] 46)
    have hB1 := bB (bA (bA (b0 w) (.cells #[.int .i64 A, .int .i64 R, .int .i64 N, .int .i64 D] 23)) (.cells #[.int .i64 0, .int .u64 0] 46)) hb1
    obtain ⟨zl_a, zl_b, ll1⟩ := rcell f_l1
    obtain ⟨zo_a, zo_b, lo1⟩ := rcell f_o1
    go_wp2_with fail
    (rw [row2 (f_o1)]; generalize hT : setRow _ _ _ = wE; obtain ⟨hbE, hgE⟩ := ret_row hB1 (by omega) (f_o1) hT; have zE := (rcell hgE).1; clear hT; refine bodyPost_ret (by simp [results, Try.results46, go_sem, zE]; try rfl) rfl ?_)
    exact ⟨rfl, hbE⟩
  · clear hn
    go_enter Try.func46, Try.ntmps46
    go_wp2_with fail
    refine (c1 _).mono ?_
    rintro e w1 ⟨rfl, hb1⟩
    have f_l1 := kp hb1 (ka (na w #[.int .i64 A, .int .i64 R, .int .i64 N, .int .i64 D] 23) (.cells #[.int .i64 0, .int .u64 0] 46))
    have f_o1 := kp hb1 (na1 w (.cells #[.int .i64 A, .int .i64 R, .int .i64 N, .int .i64 D] 23) #[.int .i64 0, .int .u64 0] 46)
    have hB1 := bB (bA (bA (b0 w) (.cells #[.int .i64 A, .int .i64 R, .int .i64 N, .int .i64 D] 23)) (.cells #[.int .i64 0, .int .u64 0] 46)) hb1
    obtain ⟨zl_a, zl_b, ll1⟩ := rcell f_l1
    obtain ⟨zo_a, zo_b, lo1⟩ := rcell f_o1
    go_wp2_with fail
    (rw [row2 (f_o1)]; generalize hT : setRow _ _ _ = wE; obtain ⟨hbE, hgE⟩ := ret_row hB1 (by omega) (f_o1) hT; have zE := (rcell hgE).1; clear hT; refine bodyPost_ret (by simp [results, Try.results46, go_sem, zE]; try rfl) rfl ?_)
    exact ⟨rfl, hbE⟩
  · clear hn
    go_enter Try.func46, Try.ntmps46
    go_wp2_with fail
    refine (c1 _).mono ?_
    rintro e w1 ⟨rfl, hb1⟩
    have f_l1 := kp hb1 (ka (na w #[.int .i64 A, .int .i64 R, .int .i64 N, .int .i64 D] 23) (.cells #[.int .i64 0, .int .u64 0] 46))
    have f_o1 := kp hb1 (na1 w (.cells #[.int .i64 A, .int .i64 R, .int .i64 N, .int .i64 D] 23) #[.int .i64 0, .int .u64 0] 46)
    have hB1 := bB (bA (bA (b0 w) (.cells #[.int .i64 A, .int .i64 R, .int .i64 N, .int .i64 D] 23)) (.cells #[.int .i64 0, .int .u64 0] 46)) hb1
    obtain ⟨zl_a, zl_b, ll1⟩ := rcell f_l1
    obtain ⟨zo_a, zo_b, lo1⟩ := rcell f_o1
    go_wp2_with fail
    (rw [row2 (f_o1)]; generalize hT : setRow _ _ _ = wE; obtain ⟨hbE, hgE⟩ := ret_row hB1 (by omega) (f_o1) hT; have zE := (rcell hgE).1; clear hT; refine bodyPost_ret (by simp [results, Try.results46, go_sem, zE]; try rfl) rfl ?_)
    exact ⟨rfl, hbE⟩
  · clear hn
    go_enter Try.func46, Try.ntmps46
    go_wp2_with fail
    refine (c1 _).mono ?_
    rintro e w1 ⟨rfl, hb1⟩
    have f_l1 := kp hb1 (ka (na w #[.int .i64 A, .int .i64 R, .int .i64 N, .int .i64 D] 23) (.cells #[.int .i64 0, .int .u64 0] 46))
    have f_o1 := kp hb1 (na1 w (.cells #[.int .i64 A, .int .i64 R, .int .i64 N, .int .i64 D] 23) #[.int .i64 0, .int .u64 0] 46)
    have hB1 := bB (bA (bA (b0 w) (.cells #[.int .i64 A, .int .i64 R, .int .i64 N, .int .i64 D] 23)) (.cells #[.int .i64 0, .int .u64 0] 46)) hb1
    obtain ⟨zl_a, zl_b, ll1⟩ := rcell f_l1
    obtain ⟨zo_a, zo_b, lo1⟩ := rcell f_o1
    go_wp2_with fail
    (rw [row2 (f_o1)]; generalize hT : setRow _ _ _ = wE; obtain ⟨hbE, hgE⟩ := ret_row hB1 (by omega) (f_o1) hT; have zE := (rcell hgE).1; clear hT; refine bodyPost_ret (by simp [results, Try.results46, go_sem, zE]; try rfl) rfl ?_)
    exact ⟨rfl, hbE⟩

theorem line_sum (A R N D f s : Int) (k : Nat) : fl (k + 1) (N * s) (N * f + R) D + A * ((k + 1 : Nat) : Int) = fl k (N * s) (N * f + R) D + A * k + lnQ A R N D (f + k * s) := by
  have e : N * s * k + (N * f + R) = N * (f + k * s) + R := by
    rw [Int.mul_add, Int.mul_assoc, Int.mul_comm s k]; omega
  have h : fl (k + 1) (N * s) (N * f + R) D = fl k (N * s) (N * f + R) D + (N * s * k + (N * f + R)) / D := rfl
  unfold lnQ
  have e2 : A * ((k + 1 : Nat) : Int) = A * k + A := by rw [Int.natCast_add, Int.mul_add]; simp
  rw [h, e, e2]
  omega

set_option maxRecDepth 100000 in
set_option maxHeartbeats 2000000 in
theorem ref6_Line_ok (A R N D f s n : Int) (h : isB A R N D = true) (n0 : 0 ≤ n) (n1 : n ≤ 256) (f0 : 0 ≤ f) (f1 : f ≤ 281474976710656) (s0 : 0 ≤ s) (s1 : s ≤ 281474976710656) (RES : Value)
    (hres : (0 < n ∧ 281474976710656 - f < (n - 1) * s ∧ RES = (.tuple #[.agg #[.int .i64 0, .int .u64 0], .int .i64 2])) ∨ ((0 < n → (n - 1) * s ≤ 281474976710656 - f) ∧ RES = (.tuple #[.agg #[.int .i64 (hi (flnQ A R N D f s n)), .int .u64 (lo (flnQ A R N D f s n))], .int .i64 0]))) (w : World) :
    Calls Try.prog 46 #[.agg #[.int .i64 A, .int .i64 R, .int .i64 N, .int .i64 D], .int .i64 f, .int .i64 s, .int .i64 n] w fun e w' => e = .returned RES ∧ Below w.heap.size w w' := by
  have c1 := ref_Right A R N D
  have HR := hide hres
  have hb := isB_spec h
  have HB := hide hb
  have HI := hide h
  rw [h] at c1
  have cI := ref_Int D (by omega) (by omega)
  have hK : ∀ k : Nat, (k : Int) ≤ n → (fl k (N * s) (N * f + R) D + A * k).natAbs < 2 ^ 127 := fun k hk => by
    have h2 := (line_row (n := (k : Int)) h (by omega) (by omega) f0 f1 s0 s1).2.2.2
    unfold flnQ at h2
    rw [Int.toNat_natCast] at h2
    obtain ⟨h3, h4⟩ := h2
    have e1 : (2 : Nat) ^ 127 = 170141183460469231731687303715884105728 := by decide
    have h5 := fl_bd (line_row (n := (k : Int)) h (by omega) (by omega) f0 f1 s0 s1).1
    rw [Int.toNat_natCast] at h5
    obtain ⟨⟨a1, a2⟩, _⟩ := hb
    have h6 := mul_bd A k _ _ a1 a2 (show (0 : Int) ≤ k by omega) (show (k : Int) ≤ 256 by omega)
    rw [e1]
    omega
  have HK := hide hK
  have lD : (sz D.natAbs).length ≤ 800 := Nat.le_trans (sz_i64 (by omega) (by omega)) (by decide)
  clear hK hres h hb
  go_enter Try.func46, Try.ntmps46
  go_wp2_with fail
  refine (c1 _).mono ?_
  rintro e w1 ⟨rfl, hb1⟩
  have f_l1 := kp hb1 (ka (na w #[.int .i64 A, .int .i64 R, .int .i64 N, .int .i64 D] 23) (.cells #[.int .i64 0, .int .u64 0] 46))
  have f_o1 := kp hb1 (na1 w (.cells #[.int .i64 A, .int .i64 R, .int .i64 N, .int .i64 D] 23) #[.int .i64 0, .int .u64 0] 46)
  have hB1 := bB (bA (bA (b0 w) (.cells #[.int .i64 A, .int .i64 R, .int .i64 N, .int .i64 D] 23)) (.cells #[.int .i64 0, .int .u64 0] 46)) hb1
  obtain ⟨zl_a, zl_b, ll1⟩ := rcell f_l1
  obtain ⟨zo_a, zo_b, lo1⟩ := rcell f_o1
  go_wp2_with fail
  go_loopw [11, 48] (fun va vi wr => ∃ (k : Nat) (v : Int), vi = .int .i64 k ∧ va = .int .i64 v ∧ (k : Int) ≤ n ∧ (k = 0 ∧ v = f ∨ 0 < k ∧ v = f + ((k : Int) - 1) * s ∧ v ≤ 281474976710656 ∧ 0 ≤ v) ∧ (wr.heap[w.heap.size]? = some (.cells #[.int .i64 A, .int .i64 R, .int .i64 N, .int .i64 D] 23 (0, 0)) ∧ wr.heap[w.heap.size + 1]? = some (.cells #[.int .i64 0, .int .u64 0] 46 (0, 0)) ∧ NumAt w1.heap.size (fl k (N * s) (N * f + R) D + A * k) wr ∧ Below w.heap.size w wr)) (fun _ vi _ => (n - intOf vi).toNat)
  case atStart =>
    refine ⟨0, _, rfl, rfl, by omega, .inl ⟨rfl, rfl⟩, (ka (f_l1) (.cells #[.bool false, .slice none 0 0] 55)), (ka (f_o1) (.cells #[.bool false, .slice none 0 0] 55)), ?_, (bA hB1 (.cells #[.bool false, .slice none 0 0] 55))⟩
    rw [show fl 0 (N * s) (N * f + R) D + A * ((0 : Nat) : Int) = 0 by show (0 : Int) + A * 0 = 0; omega]
    exact NumAt.zero (na w1 #[.bool false, .slice none 0 0] 55)
  case round =>
    obtain ⟨k, v, rfl, rfl, hk, hv, jl, jo, ⟨A4, e4, j4, r4⟩, hb0⟩ := hrel
    by_cases hlt : (k : Int) < n
    · have hat : ∃ u : Int, u = f + k * s ∧ 0 ≤ u ∧ u ≤ 562949953421312 ∧ (k = 0 ∧ v = u ∨ 0 < k ∧ v + s = u) := by
        refine ⟨f + k * s, rfl, ?_⟩
        have hk0 : 0 ≤ (k : Int) * s := Int.mul_nonneg (by omega) s0
        rcases hv with ⟨h1, h2⟩ | ⟨h1, h2, h3, h4⟩
        · subst h1
          have e0 : ((0 : Nat) : Int) * s = 0 := by simp
          omega
        · have e1 : (k : Int) * s = ((k : Int) - 1) * s + s := by rw [Int.sub_mul]; omega
          omega
      obtain ⟨u, hu, u0, u1, huv⟩ := hat
      clear hv
      by_cases hbig : 281474976710656 < u
      · have hR : RES = (.tuple #[.agg #[.int .i64 0, .int .u64 0], .int .i64 2]) := by
          rcases HR.out with ⟨_, _, h3⟩ | ⟨h1, _⟩
          · exact h3
          · have h2 := h1 (by omega)
            have h4 : (k : Int) * s ≤ (n - 1) * s := Int.mul_le_mul_of_nonneg_right (by omega) s0
            omega
        have HU := hide hu
        clear hu
        rcases huv with ⟨rfl, rfl⟩ | ⟨hk0, hvu⟩
        · obtain ⟨zl_a, zl_b, ll2⟩ := rcell jl
          obtain ⟨zo_a, zo_b, lo3⟩ := rcell jo
          go_wp2_with fail
          (rw [row2 (jo)]; generalize hT : setRow _ _ _ = wE; obtain ⟨hbE, hgE⟩ := ret_row hb0 (by omega) (jo) hT; have zE := (rcell hgE).1; clear hT; refine bodyPost_ret (by simp [results, Try.results46, go_sem, zE]; try rfl) rfl ?_)
          exact ⟨by rw [hR], hbE⟩
        · subst hvu
          obtain ⟨zl_a, zl_b, ll4⟩ := rcell jl
          obtain ⟨zo_a, zo_b, lo5⟩ := rcell jo
          go_wp2_with fail
          (rw [row2 (jo)]; generalize hT : setRow _ _ _ = wE; obtain ⟨hbE, hgE⟩ := ret_row hb0 (by omega) (jo) hT; have zE := (rcell hgE).1; clear hT; refine bodyPost_ret (by simp [results, Try.results46, go_sem, zE]; try rfl) rfl ?_)
          exact ⟨by rw [hR], hbE⟩
      · have ht : tmB u = true := decide_eq_true ⟨u0, by omega⟩
        obtain ⟨⟨a1, a2⟩, ⟨d1, d2, d3, d4⟩, _, rr1, rr2⟩ := HB.out
        have cT := ref_Times A R N D u (by omega) (by omega) (by omega) (by omega) (by omega) (by omega) (by omega) (by omega) (by omega) (by omega)
        have bx := times_bd A R N D u (by omega) (by omega) (by omega) (by omega) (by omega) (by omega) (by omega) (by omega) (by omega) (by omega)
        have hq : (N * u + R + A * D) / D = lnQ A R N D u := by
          unfold lnQ
          exact Int.add_mul_ediv_right _ _ (show D ≠ 0 by omega)
        have cD := fun A' B c d w ha hb => ref_Div (N * u + R + A * D) D A' B c d (by omega) (Nat.le_trans (sz_len_lt bx) (by decide)) lD w ha hb
        rw [hq] at cD
        have lq := lnQ_rng HI.out ht
        have hk1 := HK.out k hk
        have E1 := hide (line_sum A R N D f s k)
        rw [← hu] at E1
        have e1 : (2 : Nat) ^ 127 = 170141183460469231731687303715884105728 := by decide
        have e2 : (2 : Nat) ^ 130 = 1361129467683753853853498429727072845824 := by decide
        have cA := fun A' B c d w ha hb => ref_Add (fl k (N * s) (N * f + R) D + A * k) (lnQ A R N D u) 130 A' B c d (by decide) (by obtain ⟨x1, x2⟩ := lq; rw [e2]; rw [e1] at hk1; omega) w ha hb
        clear bx hq lq hk1 e1 e2 a1 a2 d1 d2 d3 d4 rr1 rr2 ht
        have HU := hide hu
        clear hu
        generalize lnQ A R N D u = q at *
        generalize (N * u + R + A * D) % D = r at *
        generalize N * u + R + A * D = x at *
        generalize fl k (N * s) (N * f + R) D + A * k = z at *
        rcases huv with ⟨rfl, rfl⟩ | ⟨hk0, hvu⟩
        · obtain ⟨zl_a, zl_b, ll6⟩ := rcell jl
          obtain ⟨zo_a, zo_b, lo7⟩ := rcell jo
          obtain ⟨zsu_a, zsu_b, lsu8⟩ := rcell j4
          go_wp2_with fail
          refine Abs.wp_region_abs (Abs.cls0 _) [0, 1, 2, 3, 4, 5, 6, 7, 8, 9, 10, 11, 12, 13] (by kernel_rfl) (by kernel_rfl) (Below.refl _ _).drew ?_
          repeat (first | (refine Abs.step_pure rfl rfl (fun K hK => ?_); go_simp; (try go_bits); (first | refine hK _ _ ?_ | (simp only [↓IntWalk.iteOmega]; go_simp; (try go_bits); refine hK _ _ ?_)); clear hK K) | (refine Abs.step_load (v := ?_) rfl rfl (by kernel_rfl) rfl (fun w0 hI => ?_) (fun K hK => ?_); rotate_left; (· have z0 := (rcell (kp hI (jl))).1; go_simp; rfl); (simp only [Act.put, List.setIfInBounds_toArray, List.set_cons_zero, List.set_cons_succ]; refine hK _ _ ?_; clear hK K)) | (refine Abs.step_skip rfl rfl (fun K hK => ?_); (simp only [Act.put, List.setIfInBounds_toArray, List.set_cons_zero, List.set_cons_succ]; refine hK _ _ ?_; clear hK K)))
          (refine Abs.step_call (f := ?_) (args := ?_) rfl rfl rfl rfl (NumIs (x)) (fun _ => Cl_NumIs _) (fun w0 => ?_) (fun w0 hI hF => ?_) (fun K hK v w0 hv => ?_); rotate_left 2; (· go_simp; (constructor <;> rfl)); (· exact (cT _).mono (fun _ _ h => h.num)); (obtain ⟨A1, e1, rfl, -⟩ := hv; clear w0; simp only [Act.put, List.setIfInBounds_toArray, List.set_cons_zero, List.set_cons_succ]; refine hK _ _ ?_; clear hK K))
          repeat (first | (refine Abs.step_pure rfl rfl (fun K hK => ?_); go_simp; (try go_bits); (first | refine hK _ _ ?_ | (simp only [↓IntWalk.iteOmega]; go_simp; (try go_bits); refine hK _ _ ?_)); clear hK K) | (refine Abs.step_load (v := ?_) rfl rfl (by kernel_rfl) rfl (fun w0 hI => ?_) (fun K hK => ?_); rotate_left; (· have z0 := (rcell (kp hI (jl))).1; go_simp; rfl); (simp only [Act.put, List.setIfInBounds_toArray, List.set_cons_zero, List.set_cons_succ]; refine hK _ _ ?_; clear hK K)) | (refine Abs.step_skip rfl rfl (fun K hK => ?_); (simp only [Act.put, List.setIfInBounds_toArray, List.set_cons_zero, List.set_cons_succ]; refine hK _ _ ?_; clear hK K)))
          (refine Abs.step_call (f := ?_) (args := ?_) rfl rfl rfl rfl (NumIs (D)) (fun _ => Cl_NumIs _) (fun w0 => ?_) (fun w0 hI hF => ?_) (fun K hK v w0 hv => ?_); rotate_left 2; (· go_simp; (constructor <;> rfl)); (· exact (cI _).mono (fun _ _ h => h.num)); (obtain ⟨A2, e2, rfl, -⟩ := hv; clear w0; simp only [Act.put, List.setIfInBounds_toArray, List.set_cons_zero, List.set_cons_succ]; refine hK _ _ ?_; clear hK K))
          repeat (first | (refine Abs.step_pure rfl rfl (fun K hK => ?_); go_simp; (try go_bits); (first | refine hK _ _ ?_ | (simp only [↓IntWalk.iteOmega]; go_simp; (try go_bits); refine hK _ _ ?_)); clear hK K) | (refine Abs.step_load (v := ?_) rfl rfl (by kernel_rfl) rfl (fun w0 hI => ?_) (fun K hK => ?_); rotate_left; (· have z0 := (rcell (kp hI (jl))).1; go_simp; rfl); (simp only [Act.put, List.setIfInBounds_toArray, List.set_cons_zero, List.set_cons_succ]; refine hK _ _ ?_; clear hK K)) | (refine Abs.step_skip rfl rfl (fun K hK => ?_); (simp only [Act.put, List.setIfInBounds_toArray, List.set_cons_zero, List.set_cons_succ]; refine hK _ _ ?_; clear hK K)))
          (refine Abs.step_call (f := ?_) (args := ?_) rfl rfl rfl rfl (Num2Is (q) (r)) (fun _ => Cl_Num2Is _ _) (fun w0 => ?_) (fun w0 hI hF => ?_) (fun K hK v w0 hv => ?_); rotate_left 2; (· go_simp; (constructor <;> rfl)); (· exact (cD _ _ _ _ _ (((hF 2 (by kernel_rfl)).1).2 rfl).rd ((hF 5 (by kernel_rfl)).2 rfl).rd).mono (fun _ _ h => h.num2)); (obtain ⟨A3, e3, A5, e5, rfl, -, -⟩ := hv; clear w0; simp only [Act.put, List.setIfInBounds_toArray, List.set_cons_zero, List.set_cons_succ]; refine hK _ _ ?_; clear hK K))
          repeat (first | (refine Abs.step_pure rfl rfl (fun K hK => ?_); go_simp; (try go_bits); (first | refine hK _ _ ?_ | (simp only [↓IntWalk.iteOmega]; go_simp; (try go_bits); refine hK _ _ ?_)); clear hK K) | (refine Abs.step_load (v := ?_) rfl rfl (by kernel_rfl) rfl (fun w0 hI => ?_) (fun K hK => ?_); rotate_left; (· have z0 := (rcell (kp hI (jl))).1; go_simp; rfl); (simp only [Act.put, List.setIfInBounds_toArray, List.set_cons_zero, List.set_cons_succ]; refine hK _ _ ?_; clear hK K)) | (refine Abs.step_skip rfl rfl (fun K hK => ?_); (simp only [Act.put, List.setIfInBounds_toArray, List.set_cons_zero, List.set_cons_succ]; refine hK _ _ ?_; clear hK K)))
          (refine Abs.step_var (obj := ?_) rfl rfl rfl rfl (fun w0 => ?_) (fun K hK g_q hv_q hu_q => ?_); rotate_left; (· go_simp; rfl); (simp only [Act.put, List.setIfInBounds_toArray, List.set_cons_zero, List.set_cons_succ]; refine hK _ _ ?_; clear hK K))
          repeat (first | (refine Abs.step_pure rfl rfl (fun K hK => ?_); go_simp; (try go_bits); (first | refine hK _ _ ?_ | (simp only [↓IntWalk.iteOmega]; go_simp; (try go_bits); refine hK _ _ ?_)); clear hK K) | (refine Abs.step_load (v := ?_) rfl rfl (by kernel_rfl) rfl (fun w0 hI => ?_) (fun K hK => ?_); rotate_left; (· have z0 := (rcell (kp hI (jl))).1; go_simp; rfl); (simp only [Act.put, List.setIfInBounds_toArray, List.set_cons_zero, List.set_cons_succ]; refine hK _ _ ?_; clear hK K)) | (refine Abs.step_skip rfl rfl (fun K hK => ?_); (simp only [Act.put, List.setIfInBounds_toArray, List.set_cons_zero, List.set_cons_succ]; refine hK _ _ ?_; clear hK K)))
          (refine Abs.step_var (obj := ?_) rfl rfl rfl rfl (fun w0 => ?_) (fun K hK g_t hv_t hu_t => ?_); rotate_left; (· go_simp; rfl); (simp only [Act.put, List.setIfInBounds_toArray, List.set_cons_zero, List.set_cons_succ]; refine hK _ _ ?_; clear hK K))
          repeat (first | (refine Abs.step_pure rfl rfl (fun K hK => ?_); go_simp; (try go_bits); (first | refine hK _ _ ?_ | (simp only [↓IntWalk.iteOmega]; go_simp; (try go_bits); refine hK _ _ ?_)); clear hK K) | (refine Abs.step_load (v := ?_) rfl rfl (by kernel_rfl) rfl (fun w0 hI => ?_) (fun K hK => ?_); rotate_left; (· have z0 := (rcell (kp hI (jl))).1; go_simp; rfl); (simp only [Act.put, List.setIfInBounds_toArray, List.set_cons_zero, List.set_cons_succ]; refine hK _ _ ?_; clear hK K)) | (refine Abs.step_skip rfl rfl (fun K hK => ?_); (simp only [Act.put, List.setIfInBounds_toArray, List.set_cons_zero, List.set_cons_succ]; refine hK _ _ ?_; clear hK K)))
          (refine Abs.step_store (T := ?_) rfl rfl rfl (fun w0 hI hF hU => ?_) (fun _ _ _ _ => trivial) (fun K hK => ?_); rotate_left; (· have hR := (hF 10).1.2 rfl; have hg0 := (rcell hR).1; have hg1 := (rcell hR).2.1; simp only [Abs.T_setF, Abs.T_addA, Abs.T_push, Abs.T_start]; go_simp; exact row2 hR _ _); (simp only [Act.put, List.setIfInBounds_toArray, List.set_cons_zero, List.set_cons_succ]; refine hK _ _ ?_; clear hK K))
          (refine Abs.step_store (T := ?_) rfl rfl rfl (fun w0 hI hF hU => ?_) (fun _ _ _ _ => trivial) (fun K hK => ?_); rotate_left; (· have hR := fun cs => (setRow_other (w := w0) (g := g_q) cs (fun e => hu_t (Or.inl e))).trans ((hF 11).2 rfl); have hg0 := fun cs => (rcell (hR cs)).1; have hg1 := fun cs => (rcell (hR cs)).2.1; simp only [Abs.T_setF, Abs.T_addA, Abs.T_push, Abs.T_start]; go_simp; exact row2 (hR _) _ _); (simp only [Act.put, List.setIfInBounds_toArray, List.set_cons_zero, List.set_cons_succ]; refine hK _ _ ?_; clear hK K))
          have hs_q := leB hv_q
          try simp only [World.size_alloc] at hs_q
          have hs_t := leB hv_t
          try simp only [World.size_alloc] at hs_t
          have hn : g_t ≠ g_q := fun e => hu_t (Or.inl e)
          intro w0 hI hF hx1 hx2
          clear hx1 hx2
          have q1 := (hF 10).1.2 rfl
          have q2 := (hF 11).2 rfl
          have rn_q := ((hF 6).1.1.2 rfl).rds.1
          have rn_t := ((hF 6).1.1.2 rfl).rds.2
          clear hF
          simp only [Abs.T_push]
          generalize hTa : setRow w0 _ _ = wa
          have ea := (fin_x (b0 _) q1 hTa).1
          replace rn_q := rn_q.exc ea q1 (by decide)
          replace rn_t := rn_t.exc ea q1 (by decide)
          obtain ⟨ba, fa⟩ := fin1 hI hv_q q1 hTa
          have q3 : wa.heap[g_t]? = w0.heap[g_t]? := by rw [← hTa]; exact setRow_other _ hn
          replace q2 := q3.trans q2
          clear q3
          generalize hTb : setRow wa _ _ = w10
          have eb := (fin_x (b0 _) q2 hTb).1
          replace rn_q := rn_q.exc eb q2 (by decide)
          replace rn_t := rn_t.exc eb q2 (by decide)
          obtain ⟨hb10, f_t10⟩ := fin1 ba hv_t q2 hTb
          have q4 : w10.heap[g_q]? = wa.heap[g_q]? := by rw [← hTb]; exact setRow_other _ hn.symm
          have f_q10 := q4.trans fa
          clear q4
          clear hTa hTb ea eb q1 q2 fa ba hI w0
          have f_l10 := kp hb10 (jl)
          have f_o10 := kp hb10 (jo)
          have f_su10 := kp hb10 (j4)
          have rd_su10 := r4.below hb10
          have hB10 := bB hb0 hb10
          clear zl_a zl_b zo_a zo_b zsu_a zsu_b
          obtain ⟨zl_a, zl_b, ll10⟩ := rcell f_l10
          obtain ⟨zo_a, zo_b, lo10⟩ := rcell f_o10
          obtain ⟨zsu_a, zsu_b, lsu10⟩ := rcell f_su10
          obtain ⟨zq_a, zq_b, lq10⟩ := rcell f_q10
          obtain ⟨zt_a, zt_b, lt10⟩ := rcell f_t10
          go_wp2_with fail
          refine (cA _ _ _ _ _ rd_su10 rn_q).mono ?_
          rintro e w11 ⟨S1, v1, rfl, hb11, rn_s2⟩
          have f_l11 := kp hb11 (f_l10)
          have f_o11 := kp hb11 (f_o10)
          have f_su11 := kp hb11 (f_su10)
          have f_q11 := kp hb11 (f_q10)
          have f_t11 := kp hb11 (f_t10)
          have rd_su11 := rd_su10.below hb11
          have rd_q11 := rn_q.below hb11
          have rd_t11 := rn_t.below hb11
          have hB11 := bB hB10 hb11
          clear zl_a zl_b zo_a zo_b zq_a zq_b zsu_a zsu_b zt_a zt_b
          obtain ⟨zl_a, zl_b, ll11⟩ := rcell f_l11
          obtain ⟨zo_a, zo_b, lo11⟩ := rcell f_o11
          obtain ⟨zsu_a, zsu_b, lsu11⟩ := rcell f_su11
          obtain ⟨zq_a, zq_b, lq11⟩ := rcell f_q11
          obtain ⟨zt_a, zt_b, lt11⟩ := rcell f_t11
          go_wp2_with fail
          rw [row2 f_su11]
          generalize hT12 : setRow _ _ _ = w12
          obtain ⟨hx12, f_su12⟩ := fin_x (b0 _) f_su11 hT12
          clear hT12
          have f_l12 := kx hx12 (f_l11) (by omega)
          have f_o12 := kx hx12 (f_o11) (by omega)
          have f_q12 := kx hx12 (f_q11) (by omega)
          have f_t12 := kx hx12 (f_t11) (by omega)
          have rd_su12 := rd_su11.exc hx12 (f_su11) (by decide)
          have rd_q12 := rd_q11.exc hx12 (f_su11) (by decide)
          have rd_t12 := rd_t11.exc hx12 (f_su11) (by decide)
          have rd_s212 := rn_s2.exc hx12 (f_su11) (by decide)
          have hB12 := bX hB11 hx12 (by omega)
          clear zl_a zl_b zo_a zo_b zq_a zq_b zsu_a zsu_b zt_a zt_b
          obtain ⟨zl_a, zl_b, ll12⟩ := rcell f_l12
          obtain ⟨zo_a, zo_b, lo12⟩ := rcell f_o12
          obtain ⟨zq_a, zq_b, lq12⟩ := rcell f_q12
          obtain ⟨zt_a, zt_b, lt12⟩ := rcell f_t12
          obtain ⟨zsu_a, zsu_b, lsu12⟩ := rcell f_su12
          go_roundw
          case rel => exact ⟨0 + 1, _, by go_num, rfl, by omega, .inr ⟨by omega, by rw [HU.out]; simp; try omega, by omega, u0⟩, (f_l12), (f_o12), ⟨S1, v1, by rw [E1.out]; exact (f_su12), by rw [E1.out]; exact rd_s212⟩, hB12⟩
          case measure => simp [intOf]; omega
        · subst hvu
          obtain ⟨zl_a, zl_b, ll13⟩ := rcell jl
          obtain ⟨zo_a, zo_b, lo14⟩ := rcell jo
          obtain ⟨zsu_a, zsu_b, lsu15⟩ := rcell j4
          go_wp2_with fail
          refine Abs.wp_region_abs (Abs.cls0 _) [0, 1, 2, 3, 4, 5, 6, 7, 8, 9, 10, 11, 12, 13] (by kernel_rfl) (by kernel_rfl) (Below.refl _ _).drew ?_
          repeat (first | (refine Abs.step_pure rfl rfl (fun K hK => ?_); go_simp; (try go_bits); (first | refine hK _ _ ?_ | (simp only [↓IntWalk.iteOmega]; go_simp; (try go_bits); refine hK _ _ ?_)); clear hK K) | (refine Abs.step_load (v := ?_) rfl rfl (by kernel_rfl) rfl (fun w0 hI => ?_) (fun K hK => ?_); rotate_left; (· have z0 := (rcell (kp hI (jl))).1; go_simp; rfl); (simp only [Act.put, List.setIfInBounds_toArray, List.set_cons_zero, List.set_cons_succ]; refine hK _ _ ?_; clear hK K)) | (refine Abs.step_skip rfl rfl (fun K hK => ?_); (simp only [Act.put, List.setIfInBounds_toArray, List.set_cons_zero, List.set_cons_succ]; refine hK _ _ ?_; clear hK K)))
          (refine Abs.step_call (f := ?_) (args := ?_) rfl rfl rfl rfl (NumIs (x)) (fun _ => Cl_NumIs _) (fun w0 => ?_) (fun w0 hI hF => ?_) (fun K hK v w0 hv => ?_); rotate_left 2; (· go_simp; (constructor <;> rfl)); (· exact (cT _).mono (fun _ _ h => h.num)); (obtain ⟨A1, e1, rfl, -⟩ := hv; clear w0; simp only [Act.put, List.setIfInBounds_toArray, List.set_cons_zero, List.set_cons_succ]; refine hK _ _ ?_; clear hK K))
          repeat (first | (refine Abs.step_pure rfl rfl (fun K hK => ?_); go_simp; (try go_bits); (first | refine hK _ _ ?_ | (simp only [↓IntWalk.iteOmega]; go_simp; (try go_bits); refine hK _ _ ?_)); clear hK K) | (refine Abs.step_load (v := ?_) rfl rfl (by kernel_rfl) rfl (fun w0 hI => ?_) (fun K hK => ?_); rotate_left; (· have z0 := (rcell (kp hI (jl))).1; go_simp; rfl); (simp only [Act.put, List.setIfInBounds_toArray, List.set_cons_zero, List.set_cons_succ]; refine hK _ _ ?_; clear hK K)) | (refine Abs.step_skip rfl rfl (fun K hK => ?_); (simp only [Act.put, List.setIfInBounds_toArray, List.set_cons_zero, List.set_cons_succ]; refine hK _ _ ?_; clear hK K)))
          (refine Abs.step_call (f := ?_) (args := ?_) rfl rfl rfl rfl (NumIs (D)) (fun _ => Cl_NumIs _) (fun w0 => ?_) (fun w0 hI hF => ?_) (fun K hK v w0 hv => ?_); rotate_left 2; (· go_simp; (constructor <;> rfl)); (· exact (cI _).mono (fun _ _ h => h.num)); (obtain ⟨A2, e2, rfl, -⟩ := hv; clear w0; simp only [Act.put, List.setIfInBounds_toArray, List.set_cons_zero, List.set_cons_succ]; refine hK _ _ ?_; clear hK K))
          repeat (first | (refine Abs.step_pure rfl rfl (fun K hK => ?_); go_simp; (try go_bits); (first | refine hK _ _ ?_ | (simp only [↓IntWalk.iteOmega]; go_simp; (try go_bits); refine hK _ _ ?_)); clear hK K) | (refine Abs.step_load (v := ?_) rfl rfl (by kernel_rfl) rfl (fun w0 hI => ?_) (fun K hK => ?_); rotate_left; (· have z0 := (rcell (kp hI (jl))).1; go_simp; rfl); (simp only [Act.put, List.setIfInBounds_toArray, List.set_cons_zero, List.set_cons_succ]; refine hK _ _ ?_; clear hK K)) | (refine Abs.step_skip rfl rfl (fun K hK => ?_); (simp only [Act.put, List.setIfInBounds_toArray, List.set_cons_zero, List.set_cons_succ]; refine hK _ _ ?_; clear hK K)))
          (refine Abs.step_call (f := ?_) (args := ?_) rfl rfl rfl rfl (Num2Is (q) (r)) (fun _ => Cl_Num2Is _ _) (fun w0 => ?_) (fun w0 hI hF => ?_) (fun K hK v w0 hv => ?_); rotate_left 2; (· go_simp; (constructor <;> rfl)); (· exact (cD _ _ _ _ _ (((hF 2 (by kernel_rfl)).1).2 rfl).rd ((hF 5 (by kernel_rfl)).2 rfl).rd).mono (fun _ _ h => h.num2)); (obtain ⟨A3, e3, A5, e5, rfl, -, -⟩ := hv; clear w0; simp only [Act.put, List.setIfInBounds_toArray, List.set_cons_zero, List.set_cons_succ]; refine hK _ _ ?_; clear hK K))
          repeat (first | (refine Abs.step_pure rfl rfl (fun K hK => ?_); go_simp; (try go_bits); (first | refine hK _ _ ?_ | (simp only [↓IntWalk.iteOmega]; go_simp; (try go_bits); refine hK _ _ ?_)); clear hK K) | (refine Abs.step_load (v := ?_) rfl rfl (by kernel_rfl) rfl (fun w0 hI => ?_) (fun K hK => ?_); rotate_left; (· have z0 := (rcell (kp hI (jl))).1; go_simp; rfl); (simp only [Act.put, List.setIfInBounds_toArray, List.set_cons_zero, List.set_cons_succ]; refine hK _ _ ?_; clear hK K)) | (refine Abs.step_skip rfl rfl (fun K hK => ?_); (simp only [Act.put, List.setIfInBounds_toArray, List.set_cons_zero, List.set_cons_succ]; refine hK _ _ ?_; clear hK K)))
          (refine Abs.step_var (obj := ?_) rfl rfl rfl rfl (fun w0 => ?_) (fun K hK g_q hv_q hu_q => ?_); rotate_left; (· go_simp; rfl); (simp only [Act.put, List.setIfInBounds_toArray, List.set_cons_zero, List.set_cons_succ]; refine hK _ _ ?_; clear hK K))
          repeat (first | (refine Abs.step_pure rfl rfl (fun K hK => ?_); go_simp; (try go_bits); (first | refine hK _ _ ?_ | (simp only [↓IntWalk.iteOmega]; go_simp; (try go_bits); refine hK _ _ ?_)); clear hK K) | (refine Abs.step_load (v := ?_) rfl rfl (by kernel_rfl) rfl (fun w0 hI => ?_) (fun K hK => ?_); rotate_left; (· have z0 := (rcell (kp hI (jl))).1; go_simp; rfl); (simp only [Act.put, List.setIfInBounds_toArray, List.set_cons_zero, List.set_cons_succ]; refine hK _ _ ?_; clear hK K)) | (refine Abs.step_skip rfl rfl (fun K hK => ?_); (simp only [Act.put, List.setIfInBounds_toArray, List.set_cons_zero, List.set_cons_succ]; refine hK _ _ ?_; clear hK K)))
          (refine Abs.step_var (obj := ?_) rfl rfl rfl rfl (fun w0 => ?_) (fun K hK g_t hv_t hu_t => ?_); rotate_left; (· go_simp; rfl); (simp only [Act.put, List.setIfInBounds_toArray, List.set_cons_zero, List.set_cons_succ]; refine hK _ _ ?_; clear hK K))
          repeat (first | (refine Abs.step_pure rfl rfl (fun K hK => ?_); go_simp; (try go_bits); (first | refine hK _ _ ?_ | (simp only [↓IntWalk.iteOmega]; go_simp; (try go_bits); refine hK _ _ ?_)); clear hK K) | (refine Abs.step_load (v := ?_) rfl rfl (by kernel_rfl) rfl (fun w0 hI => ?_) (fun K hK => ?_); rotate_left; (· have z0 := (rcell (kp hI (jl))).1; go_simp; rfl); (simp only [Act.put, List.setIfInBounds_toArray, List.set_cons_zero, List.set_cons_succ]; refine hK _ _ ?_; clear hK K)) | (refine Abs.step_skip rfl rfl (fun K hK => ?_); (simp only [Act.put, List.setIfInBounds_toArray, List.set_cons_zero, List.set_cons_succ]; refine hK _ _ ?_; clear hK K)))
          (refine Abs.step_store (T := ?_) rfl rfl rfl (fun w0 hI hF hU => ?_) (fun _ _ _ _ => trivial) (fun K hK => ?_); rotate_left; (· have hR := (hF 10).1.2 rfl; have hg0 := (rcell hR).1; have hg1 := (rcell hR).2.1; simp only [Abs.T_setF, Abs.T_addA, Abs.T_push, Abs.T_start]; go_simp; exact row2 hR _ _); (simp only [Act.put, List.setIfInBounds_toArray, List.set_cons_zero, List.set_cons_succ]; refine hK _ _ ?_; clear hK K))
          (refine Abs.step_store (T := ?_) rfl rfl rfl (fun w0 hI hF hU => ?_) (fun _ _ _ _ => trivial) (fun K hK => ?_); rotate_left; (· have hR := fun cs => (setRow_other (w := w0) (g := g_q) cs (fun e => hu_t (Or.inl e))).trans ((hF 11).2 rfl); have hg0 := fun cs => (rcell (hR cs)).1; have hg1 := fun cs => (rcell (hR cs)).2.1; simp only [Abs.T_setF, Abs.T_addA, Abs.T_push, Abs.T_start]; go_simp; exact row2 (hR _) _ _); (simp only [Act.put, List.setIfInBounds_toArray, List.set_cons_zero, List.set_cons_succ]; refine hK _ _ ?_; clear hK K))
          have hs_q := leB hv_q
          try simp only [World.size_alloc] at hs_q
          have hs_t := leB hv_t
          try simp only [World.size_alloc] at hs_t
          have hn : g_t ≠ g_q := fun e => hu_t (Or.inl e)
          intro w0 hI hF hx1 hx2
          clear hx1 hx2
          have q1 := (hF 10).1.2 rfl
          have q2 := (hF 11).2 rfl
          have rn_q := ((hF 6).1.1.2 rfl).rds.1
          have rn_t := ((hF 6).1.1.2 rfl).rds.2
          clear hF
          simp only [Abs.T_push]
          generalize hTa : setRow w0 _ _ = wa
          have ea := (fin_x (b0 _) q1 hTa).1
          replace rn_q := rn_q.exc ea q1 (by decide)
          replace rn_t := rn_t.exc ea q1 (by decide)
          obtain ⟨ba, fa⟩ := fin1 hI hv_q q1 hTa
          have q3 : wa.heap[g_t]? = w0.heap[g_t]? := by rw [← hTa]; exact setRow_other _ hn
          replace q2 := q3.trans q2
          clear q3
          generalize hTb : setRow wa _ _ = w17
          have eb := (fin_x (b0 _) q2 hTb).1
          replace rn_q := rn_q.exc eb q2 (by decide)
          replace rn_t := rn_t.exc eb q2 (by decide)
          obtain ⟨hb17, f_t17⟩ := fin1 ba hv_t q2 hTb
          have q4 : w17.heap[g_q]? = wa.heap[g_q]? := by rw [← hTb]; exact setRow_other _ hn.symm
          have f_q17 := q4.trans fa
          clear q4
          clear hTa hTb ea eb q1 q2 fa ba hI w0
          have f_l17 := kp hb17 (jl)
          have f_o17 := kp hb17 (jo)
          have f_su17 := kp hb17 (j4)
          have rd_su17 := r4.below hb17
          have hB17 := bB hb0 hb17
          clear zl_a zl_b zo_a zo_b zsu_a zsu_b
          obtain ⟨zl_a, zl_b, ll17⟩ := rcell f_l17
          obtain ⟨zo_a, zo_b, lo17⟩ := rcell f_o17
          obtain ⟨zsu_a, zsu_b, lsu17⟩ := rcell f_su17
          obtain ⟨zq_a, zq_b, lq17⟩ := rcell f_q17
          obtain ⟨zt_a, zt_b, lt17⟩ := rcell f_t17
          go_wp2_with fail
          refine (cA _ _ _ _ _ rd_su17 rn_q).mono ?_
          rintro e w18 ⟨S1, v1, rfl, hb18, rn_s2⟩
          have f_l18 := kp hb18 (f_l17)
          have f_o18 := kp hb18 (f_o17)
          have f_su18 := kp hb18 (f_su17)
          have f_q18 := kp hb18 (f_q17)
          have f_t18 := kp hb18 (f_t17)
          have rd_su18 := rd_su17.below hb18
          have rd_q18 := rn_q.below hb18
          have rd_t18 := rn_t.below hb18
          have hB18 := bB hB17 hb18
          clear zl_a zl_b zo_a zo_b zq_a zq_b zsu_a zsu_b zt_a zt_b
          obtain ⟨zl_a, zl_b, ll18⟩ := rcell f_l18
          obtain ⟨zo_a, zo_b, lo18⟩ := rcell f_o18
          obtain ⟨zsu_a, zsu_b, lsu18⟩ := rcell f_su18
          obtain ⟨zq_a, zq_b, lq18⟩ := rcell f_q18
          obtain ⟨zt_a, zt_b, lt18⟩ := rcell f_t18
          go_wp2_with fail
          rw [row2 f_su18]
          generalize hT19 : setRow _ _ _ = w19
          obtain ⟨hx19, f_su19⟩ := fin_x (b0 _) f_su18 hT19
          clear hT19
          have f_l19 := kx hx19 (f_l18) (by omega)
          have f_o19 := kx hx19 (f_o18) (by omega)
          have f_q19 := kx hx19 (f_q18) (by omega)
          have f_t19 := kx hx19 (f_t18) (by omega)
          have rd_su19 := rd_su18.exc hx19 (f_su18) (by decide)
          have rd_q19 := rd_q18.exc hx19 (f_su18) (by decide)
          have rd_t19 := rd_t18.exc hx19 (f_su18) (by decide)
          have rd_s219 := rn_s2.exc hx19 (f_su18) (by decide)
          have hB19 := bX hB18 hx19 (by omega)
          clear zl_a zl_b zo_a zo_b zq_a zq_b zsu_a zsu_b zt_a zt_b
          obtain ⟨zl_a, zl_b, ll19⟩ := rcell f_l19
          obtain ⟨zo_a, zo_b, lo19⟩ := rcell f_o19
          obtain ⟨zq_a, zq_b, lq19⟩ := rcell f_q19
          obtain ⟨zt_a, zt_b, lt19⟩ := rcell f_t19
          obtain ⟨zsu_a, zsu_b, lsu19⟩ := rcell f_su19
          go_roundw
          case rel => exact ⟨k + 1, _, by go_num, rfl, by omega, .inr ⟨by omega, by rw [HU.out]; simp; try omega, by omega, u0⟩, (f_l19), (f_o19), ⟨S1, v1, by rw [E1.out]; exact (f_su19), by rw [E1.out]; exact rd_s219⟩, hB19⟩
          case measure => simp [intOf]; omega
    · have hkn : n.toNat = k := by omega
      have hR : RES = (.tuple #[.agg #[.int .i64 (hi (flnQ A R N D f s n)), .int .u64 (lo (flnQ A R N D f s n))], .int .i64 0]) := by
        rcases HR.out with ⟨h0, h1, _⟩ | ⟨_, h2⟩
        · exfalso
          rcases hv with ⟨h3, h4⟩ | ⟨h3, h4, h5, h6⟩
          · omega
          · have e : ((k : Int) - 1) * s = (n - 1) * s := by rw [show (k : Int) = n by omega]
            omega
        · exact h2
      have hz : fl k (N * s) (N * f + R) D + A * k = flnQ A R N D f s n := by
        unfold flnQ
        rw [hkn, show (k : Int) = n by omega]
      have hg := (line_row HI.out n0 n1 f0 f1 s0 s1).2.2.2
      rw [hz] at j4 r4
      have cW := fun A' c w ha => ref_Wide_yes (flnQ A R N D f s n) A' c hg w ha
      clear hz hkn hv hg
      obtain ⟨zl_a, zl_b, ll20⟩ := rcell jl
      obtain ⟨zo_a, zo_b, lo21⟩ := rcell jo
      obtain ⟨zsu_a, zsu_b, lsu22⟩ := rcell j4
      go_wp2_with fail
      refine (cW _ _ _ r4).mono ?_
      rintro e w23 ⟨rfl, hb23⟩
      have f_l23 := kp hb23 (jl)
      have f_o23 := kp hb23 (jo)
      have f_su23 := kp hb23 (j4)
      have rd_su23 := r4.below hb23
      have hB23 := bB hb0 hb23
      clear zl_a zl_b zo_a zo_b zsu_a zsu_b
      obtain ⟨zl_a, zl_b, ll23⟩ := rcell f_l23
      obtain ⟨zo_a, zo_b, lo23⟩ := rcell f_o23
      obtain ⟨zsu_a, zsu_b, lsu23⟩ := rcell f_su23
      go_wp2_with fail
      rw [row2 (f_o23)]
      generalize hT : setRow _ _ _ = wE
      obtain ⟨hbE, hgE⟩ := ret_row hB23 (by omega) (f_o23) hT
      have zE := (rcell hgE).1
      have zL := (rcell hgE).2.2
      clear hT
      refine bodyPost_ret (by simp [results, Try.results46, go_sem, zE, zL]; try rfl) rfl ?_
      exact ⟨by rw [hR], bA hbE _⟩
end Go.Proofs.Ytlgjapjcdpikeaa
