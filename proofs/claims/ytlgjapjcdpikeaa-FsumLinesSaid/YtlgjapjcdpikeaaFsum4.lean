/- The package fsum at this program, on: tells, with what is done behind it; Sum, Rests, Line. -/
import Derived.Test.YtlgjapjcdpikeaaFsum3
set_option linter.unusedSimpArgs false
set_option linter.unusedVariables false
namespace Go.Proofs.Ytlgjapjcdpikeaa
open Go.RowKit

/-- a row's cells -/
def rowC (s n a b m : Int) : Array Value := #[.int .i64 (hi s), .int .u64 (lo s), .int .i64 n, .int .i64 (hi a), .int .u64 (lo a), .int .i64 (hi b), .int .u64 (lo b), .int .i64 m]

set_option maxRecDepth 100000 in
set_option maxHeartbeats 2000000 in
theorem tellsS (n a b m yh yl : Int) (h : RowOk n a b m)
    (hd : ∀ (k : Nat) (w : World), w.heap[k]? = some (.cells #[.int .i64 (hi (fl n.toNat a b m)), .int .u64 (lo (fl n.toNat a b m)), .int .i64 n, .int .i64 (hi a), .int .u64 (lo a), .int .i64 (hi b), .int .u64 (lo b), .int .i64 m] 116 (0, 0)) → Calls Try.prog 79 #[.pointer (some ⟨k, 0, none⟩)] w fun e w' => e = .returned (.agg #[.int .i64 yh, .int .u64 yl]) ∧ Exc k w w') (w : World) :
    Calls Try.prog 78 #[.agg #[.int .i64 0, .int .u64 0, .int .i64 n, .int .i64 (hi a), .int .u64 (lo a), .int .i64 (hi b), .int .u64 (lo b), .int .i64 m], .func (Fn.func 79) #[] #[]] w fun e w' => e = .returned (.tuple #[.agg #[.int .i64 yh, .int .u64 yl], .int .i64 0]) ∧ Below w.heap.size w w' := by
  have c0 := fsum_steps
  obtain ⟨⟨ra, rb⟩, -⟩ := steps_math h
  have cA := fsum_term a ra
  have cB := fsum_term b rb
  have cS := fun g w => fsum_steps g n a b m h w
  obtain ⟨n0, n1, a0, a1, b0', b1, m1, m2⟩ := h
  rw [show trB a = true from decide_eq_true ⟨a0, a1⟩] at cA
  rw [show trB b = true from decide_eq_true ⟨b0', b1⟩] at cB
  clear c0 ra rb a0 a1 b0' b1
  generalize fl n.toNat a b m = F at *
  go_enter Try.func78, Try.ntmps78
  go_wp2_with fail
  refine (cA _).mono ?_
  rintro e w1 ⟨rfl, hb1⟩
  have f_r1 := kp hb1 (ka (na _ _ _) _)
  have f_o1 := kp hb1 (na1 _ _ _ _)
  have hB1 := bB (bA (bA (b0 w) _) _) hb1
  obtain ⟨zr_a, zr_b, lr1⟩ := rcell f_r1
  obtain ⟨zo_a, zo_b, lo1⟩ := rcell f_o1
  go_wp2_with fail
  refine (cB _).mono ?_
  rintro e w2 ⟨rfl, hb2⟩
  have f_r2 := kp hb2 (f_r1)
  have f_o2 := kp hb2 (f_o1)
  have hB2 := bB hB1 hb2
  clear zo_a zo_b zr_a zr_b
  obtain ⟨zr_a, zr_b, lr2⟩ := rcell f_r2
  obtain ⟨zo_a, zo_b, lo2⟩ := rcell f_o2
  go_wp2_with fail
  refine (cS _ _ (f_r2)).mono ?_
  rintro e w3 ⟨rfl, hx3, f_r3⟩
  have f_o3 := kx hx3 (f_o2) (by omega)
  have hB3 := bX hB2 hx3 (by omega)
  clear zo_a zo_b zr_a zr_b
  obtain ⟨zo_a, zo_b, lo3⟩ := rcell f_o3
  obtain ⟨zr_a, zr_b, lr3⟩ := rcell f_r3
  go_wp2_with fail
  refine (hd _ _ (f_r3)).mono ?_
  rintro e w4 ⟨rfl, hx4⟩
  have f_o4 := kx hx4 (f_o3) (by omega)
  have hB4 := bX hB3 hx4 (by omega)
  clear zo_a zo_b zr_a zr_b
  obtain ⟨zo_a, zo_b, lo4⟩ := rcell f_o4
  go_wp2_with fail
  (rw [row2 (f_o4)]; generalize hT : setRow _ _ _ = wE; obtain ⟨hbE, hgE⟩ := ret_row hB4 (by omega) (f_o4) hT; have zE := (rcell hgE).1; clear hT; refine bodyPost_ret (by simp [results, Try.results78, go_sem, zE]; try rfl) rfl ?_)
  exact ⟨rfl, hbE⟩

set_option maxRecDepth 100000 in
theorem tellsS_1 (n a b m : Int) (fn : Fn) (first cap : Array Value) (ra : Rng a) (rb : Rng b) (h1 : n < 0) (w : World) :
    Calls Try.prog 78 #[.agg #[.int .i64 0, .int .u64 0, .int .i64 n, .int .i64 (hi a), .int .u64 (lo a), .int .i64 (hi b), .int .u64 (lo b), .int .i64 m], .func fn first cap] w fun e w' => e = .returned (.tuple #[.agg #[.int .i64 0, .int .u64 0], .int .i64 2]) ∧ Below w.heap.size w w' := by
  go_enter Try.func78, Try.ntmps78
  go_wp2
  refine bodyPost_ret (by simp [results, Try.results78, go_sem]; try rfl) rfl ⟨rfl, (bA (bA (bA (b0 w) _) _) _)⟩

set_option maxRecDepth 100000 in
theorem tellsS_2 (n a b m : Int) (fn : Fn) (first cap : Array Value) (ra : Rng a) (rb : Rng b) (h1 : 0 ≤ n) (h2 : 256 < n) (w : World) :
    Calls Try.prog 78 #[.agg #[.int .i64 0, .int .u64 0, .int .i64 n, .int .i64 (hi a), .int .u64 (lo a), .int .i64 (hi b), .int .u64 (lo b), .int .i64 m], .func fn first cap] w fun e w' => e = .returned (.tuple #[.agg #[.int .i64 0, .int .u64 0], .int .i64 2]) ∧ Below w.heap.size w w' := by
  go_enter Try.func78, Try.ntmps78
  go_wp2
  refine bodyPost_ret (by simp [results, Try.results78, go_sem]; try rfl) rfl ⟨rfl, (bA (bA (bA (b0 w) _) _) _)⟩

set_option maxRecDepth 100000 in
theorem tellsS_3 (n a b m : Int) (fn : Fn) (first cap : Array Value) (ra : Rng a) (rb : Rng b) (h1 : 0 ≤ n) (h2 : n ≤ 256) (hA : trB a = false) (w : World) :
    Calls Try.prog 78 #[.agg #[.int .i64 0, .int .u64 0, .int .i64 n, .int .i64 (hi a), .int .u64 (lo a), .int .i64 (hi b), .int .u64 (lo b), .int .i64 m], .func fn first cap] w fun e w' => e = .returned (.tuple #[.agg #[.int .i64 0, .int .u64 0], .int .i64 2]) ∧ Below w.heap.size w w' := by
  have cA := fsum_term a ra
  rw [hA] at cA
  go_enter Try.func78, Try.ntmps78
  go_wp2_with fail
  refine (cA _).mono ?_
  rintro e w1 ⟨rfl, hb1⟩
  have f_r1 := kp hb1 (ka (na _ _ _) _)
  have f_o1 := kp hb1 (na1 _ _ _ _)
  have hB1 := bB (bA (bA (b0 w) _) _) hb1
  obtain ⟨zr_a, zr_b, lr1⟩ := rcell f_r1
  obtain ⟨zo_a, zo_b, lo1⟩ := rcell f_o1
  go_wp2
  rw [row2 (f_o1)]
  generalize hT : setRow _ _ _ = wE
  obtain ⟨hbE, hgE⟩ := ret_row hB1 (by omega) (f_o1) hT
  have zE := (rcell hgE).1
  have zL := (rcell hgE).2.2
  clear hT
  refine bodyPost_ret (by simp [results, Try.results78, go_sem, zE, zL]; try rfl) rfl ?_
  exact ⟨rfl, bA hbE _⟩

set_option maxRecDepth 100000 in
theorem tellsS_4 (n a b m : Int) (fn : Fn) (first cap : Array Value) (ra : Rng a) (rb : Rng b) (h1 : 0 ≤ n) (h2 : n ≤ 256) (hA : trB a = true) (hB : trB b = false) (w : World) :
    Calls Try.prog 78 #[.agg #[.int .i64 0, .int .u64 0, .int .i64 n, .int .i64 (hi a), .int .u64 (lo a), .int .i64 (hi b), .int .u64 (lo b), .int .i64 m], .func fn first cap] w fun e w' => e = .returned (.tuple #[.agg #[.int .i64 0, .int .u64 0], .int .i64 2]) ∧ Below w.heap.size w w' := by
  have cA := fsum_term a ra
  rw [hA] at cA
  have cB := fsum_term b rb
  rw [hB] at cB
  go_enter Try.func78, Try.ntmps78
  go_wp2_with fail
  refine (cA _).mono ?_
  rintro e w1 ⟨rfl, hb1⟩
  have f_r1 := kp hb1 (ka (na _ _ _) _)
  have f_o1 := kp hb1 (na1 _ _ _ _)
  have hB1 := bB (bA (bA (b0 w) _) _) hb1
  obtain ⟨zr_a, zr_b, lr1⟩ := rcell f_r1
  obtain ⟨zo_a, zo_b, lo1⟩ := rcell f_o1
  go_wp2_with fail
  refine (cB _).mono ?_
  rintro e w2 ⟨rfl, hb2⟩
  have f_r2 := kp hb2 (f_r1)
  have f_o2 := kp hb2 (f_o1)
  have hB2 := bB hB1 hb2
  clear zo_a zo_b zr_a zr_b
  obtain ⟨zr_a, zr_b, lr2⟩ := rcell f_r2
  obtain ⟨zo_a, zo_b, lo2⟩ := rcell f_o2
  go_wp2
  rw [row2 (f_o2)]
  generalize hT : setRow _ _ _ = wE
  obtain ⟨hbE, hgE⟩ := ret_row hB2 (by omega) (f_o2) hT
  have zE := (rcell hgE).1
  have zL := (rcell hgE).2.2
  clear hT
  refine bodyPost_ret (by simp [results, Try.results78, go_sem, zE, zL]; try rfl) rfl ?_
  exact ⟨rfl, bA hbE _⟩

set_option maxRecDepth 100000 in
theorem tellsS_5 (n a b m : Int) (fn : Fn) (first cap : Array Value) (ra : Rng a) (rb : Rng b) (h1 : 0 ≤ n) (h2 : n ≤ 256) (hA : trB a = true) (hB : trB b = true) (h3 : m < 1) (w : World) :
    Calls Try.prog 78 #[.agg #[.int .i64 0, .int .u64 0, .int .i64 n, .int .i64 (hi a), .int .u64 (lo a), .int .i64 (hi b), .int .u64 (lo b), .int .i64 m], .func fn first cap] w fun e w' => e = .returned (.tuple #[.agg #[.int .i64 0, .int .u64 0], .int .i64 2]) ∧ Below w.heap.size w w' := by
  have cA := fsum_term a ra
  rw [hA] at cA
  have cB := fsum_term b rb
  rw [hB] at cB
  go_enter Try.func78, Try.ntmps78
  go_wp2_with fail
  refine (cA _).mono ?_
  rintro e w1 ⟨rfl, hb1⟩
  have f_r1 := kp hb1 (ka (na _ _ _) _)
  have f_o1 := kp hb1 (na1 _ _ _ _)
  have hB1 := bB (bA (bA (b0 w) _) _) hb1
  obtain ⟨zr_a, zr_b, lr1⟩ := rcell f_r1
  obtain ⟨zo_a, zo_b, lo1⟩ := rcell f_o1
  go_wp2_with fail
  refine (cB _).mono ?_
  rintro e w2 ⟨rfl, hb2⟩
  have f_r2 := kp hb2 (f_r1)
  have f_o2 := kp hb2 (f_o1)
  have hB2 := bB hB1 hb2
  clear zo_a zo_b zr_a zr_b
  obtain ⟨zr_a, zr_b, lr2⟩ := rcell f_r2
  obtain ⟨zo_a, zo_b, lo2⟩ := rcell f_o2
  go_wp2
  rw [row2 (f_o2)]
  generalize hT : setRow _ _ _ = wE
  obtain ⟨hbE, hgE⟩ := ret_row hB2 (by omega) (f_o2) hT
  have zE := (rcell hgE).1
  have zL := (rcell hgE).2.2
  clear hT
  refine bodyPost_ret (by simp [results, Try.results78, go_sem, zE, zL]; try rfl) rfl ?_
  exact ⟨rfl, bA hbE _⟩

set_option maxRecDepth 100000 in
theorem tellsS_6 (n a b m : Int) (fn : Fn) (first cap : Array Value) (ra : Rng a) (rb : Rng b) (h1 : 0 ≤ n) (h2 : n ≤ 256) (hA : trB a = true) (hB : trB b = true) (h3 : 1 ≤ m) (h4 : 281474976710656 < m) (w : World) :
    Calls Try.prog 78 #[.agg #[.int .i64 0, .int .u64 0, .int .i64 n, .int .i64 (hi a), .int .u64 (lo a), .int .i64 (hi b), .int .u64 (lo b), .int .i64 m], .func fn first cap] w fun e w' => e = .returned (.tuple #[.agg #[.int .i64 0, .int .u64 0], .int .i64 2]) ∧ Below w.heap.size w w' := by
  have cA := fsum_term a ra
  rw [hA] at cA
  have cB := fsum_term b rb
  rw [hB] at cB
  go_enter Try.func78, Try.ntmps78
  go_wp2_with fail
  refine (cA _).mono ?_
  rintro e w1 ⟨rfl, hb1⟩
  have f_r1 := kp hb1 (ka (na _ _ _) _)
  have f_o1 := kp hb1 (na1 _ _ _ _)
  have hB1 := bB (bA (bA (b0 w) _) _) hb1
  obtain ⟨zr_a, zr_b, lr1⟩ := rcell f_r1
  obtain ⟨zo_a, zo_b, lo1⟩ := rcell f_o1
  go_wp2_with fail
  refine (cB _).mono ?_
  rintro e w2 ⟨rfl, hb2⟩
  have f_r2 := kp hb2 (f_r1)
  have f_o2 := kp hb2 (f_o1)
  have hB2 := bB hB1 hb2
  clear zo_a zo_b zr_a zr_b
  obtain ⟨zr_a, zr_b, lr2⟩ := rcell f_r2
  obtain ⟨zo_a, zo_b, lo2⟩ := rcell f_o2
  go_wp2
  rw [row2 (f_o2)]
  generalize hT : setRow _ _ _ = wE
  obtain ⟨hbE, hgE⟩ := ret_row hB2 (by omega) (f_o2) hT
  have zE := (rcell hgE).1
  have zL := (rcell hgE).2.2
  clear hT
  refine bodyPost_ret (by simp [results, Try.results78, go_sem, zE, zL]; try rfl) rfl ?_
  exact ⟨rfl, bA hbE _⟩

set_option maxRecDepth 100000 in
set_option maxHeartbeats 2000000 in
theorem tellsL (n a b m yh yl : Int) (kl : Nat) (A R N D : Int) (h : RowOk n a b m)
    (hd : ∀ (k : Nat) (w : World), k ≠ kl → w.heap[kl]? = some (.cells #[.int .i64 A, .int .i64 R, .int .i64 N, .int .i64 D] 23 (0, 0)) → w.heap[k]? = some (.cells #[.int .i64 (hi (fl n.toNat a b m)), .int .u64 (lo (fl n.toNat a b m)), .int .i64 n, .int .i64 (hi a), .int .u64 (lo a), .int .i64 (hi b), .int .u64 (lo b), .int .i64 m] 116 (0, 0)) → Calls Try.prog 88 #[.pointer (some ⟨k, 0, none⟩), .pointer (some ⟨kl, 0, none⟩)] w fun e w' => e = .returned (.agg #[.int .i64 yh, .int .u64 yl]) ∧ Exc k w w') (w : World) (hl : w.heap[kl]? = some (.cells #[.int .i64 A, .int .i64 R, .int .i64 N, .int .i64 D] 23 (0, 0))) :
    Calls Try.prog 78 #[.agg #[.int .i64 0, .int .u64 0, .int .i64 n, .int .i64 (hi a), .int .u64 (lo a), .int .i64 (hi b), .int .u64 (lo b), .int .i64 m], .func (Fn.func 88) #[] #[.pointer (some ⟨kl, 0, none⟩)]] w fun e w' => e = .returned (.tuple #[.agg #[.int .i64 yh, .int .u64 yl], .int .i64 0]) ∧ Below w.heap.size w w' := by
  have c0 := fsum_steps
  obtain ⟨⟨ra, rb⟩, -⟩ := steps_math h
  have cA := fsum_term a ra
  have cB := fsum_term b rb
  have cS := fun g w => fsum_steps g n a b m h w
  obtain ⟨n0, n1, a0, a1, b0', b1, m1, m2⟩ := h
  rw [show trB a = true from decide_eq_true ⟨a0, a1⟩] at cA
  rw [show trB b = true from decide_eq_true ⟨b0', b1⟩] at cB
  clear c0 ra rb a0 a1 b0' b1
  generalize fl n.toNat a b m = F at *
  go_enter Try.func78, Try.ntmps78
  obtain ⟨zl_a, zl_b, ll0⟩ := rcell hl
  go_wp2_with fail
  refine (cA _).mono ?_
  rintro e w1 ⟨rfl, hb1⟩
  have f_l1 := kp hb1 (ka (ka (hl) _) _)
  have f_r1 := kp hb1 (ka (na _ _ _) _)
  have f_o1 := kp hb1 (na1 _ _ _ _)
  have hB1 := bB (bA (bA (b0 w) _) _) hb1
  clear zl_a zl_b
  obtain ⟨zl_a, zl_b, ll1⟩ := rcell f_l1
  obtain ⟨zr_a, zr_b, lr1⟩ := rcell f_r1
  obtain ⟨zo_a, zo_b, lo1⟩ := rcell f_o1
  go_wp2_with fail
  refine (cB _).mono ?_
  rintro e w2 ⟨rfl, hb2⟩
  have f_l2 := kp hb2 (f_l1)
  have f_r2 := kp hb2 (f_r1)
  have f_o2 := kp hb2 (f_o1)
  have hB2 := bB hB1 hb2
  clear zl_a zl_b zo_a zo_b zr_a zr_b
  obtain ⟨zl_a, zl_b, ll2⟩ := rcell f_l2
  obtain ⟨zr_a, zr_b, lr2⟩ := rcell f_r2
  obtain ⟨zo_a, zo_b, lo2⟩ := rcell f_o2
  go_wp2_with fail
  refine (cS _ _ (f_r2)).mono ?_
  rintro e w3 ⟨rfl, hx3, f_r3⟩
  have f_l3 := kx hx3 (f_l2) (by omega)
  have f_o3 := kx hx3 (f_o2) (by omega)
  have hB3 := bX hB2 hx3 (by omega)
  clear zl_a zl_b zo_a zo_b zr_a zr_b
  obtain ⟨zl_a, zl_b, ll3⟩ := rcell f_l3
  obtain ⟨zo_a, zo_b, lo3⟩ := rcell f_o3
  obtain ⟨zr_a, zr_b, lr3⟩ := rcell f_r3
  go_wp2_with fail
  refine (hd _ _ (by omega) (f_l3) (f_r3)).mono ?_
  rintro e w4 ⟨rfl, hx4⟩
  have f_l4 := kx hx4 (f_l3) (by omega)
  have f_o4 := kx hx4 (f_o3) (by omega)
  have hB4 := bX hB3 hx4 (by omega)
  clear zl_a zl_b zo_a zo_b zr_a zr_b
  obtain ⟨zl_a, zl_b, ll4⟩ := rcell f_l4
  obtain ⟨zo_a, zo_b, lo4⟩ := rcell f_o4
  go_wp2_with fail
  (rw [row2 (f_o4)]; generalize hT : setRow _ _ _ = wE; obtain ⟨hbE, hgE⟩ := ret_row hB4 (by omega) (f_o4) hT; have zE := (rcell hgE).1; clear hT; refine bodyPost_ret (by simp [results, Try.results78, go_sem, zE]; try rfl) rfl ?_)
  exact ⟨rfl, hbE⟩

set_option maxRecDepth 100000 in
set_option maxHeartbeats 2000000 in
theorem tellsR (n a b m y : Int) (h : RowOk n a b m)
    (hd : ∀ (k : Nat) (w : World), w.heap[k]? = some (.cells #[.int .i64 (hi (fl n.toNat a b m)), .int .u64 (lo (fl n.toNat a b m)), .int .i64 n, .int .i64 (hi a), .int .u64 (lo a), .int .i64 (hi b), .int .u64 (lo b), .int .i64 m] 116 (0, 0)) → Calls Try.prog 81 #[.pointer (some ⟨k, 0, none⟩)] w fun e w' => e = .returned (.int .i64 y) ∧ Exc k w w') (w : World) :
    Calls Try.prog 80 #[.agg #[.int .i64 0, .int .u64 0, .int .i64 n, .int .i64 (hi a), .int .u64 (lo a), .int .i64 (hi b), .int .u64 (lo b), .int .i64 m], .func (Fn.func 81) #[] #[]] w fun e w' => e = .returned (.tuple #[.int .i64 y, .int .i64 0]) ∧ Below w.heap.size w w' := by
  have c0 := fsum_steps
  obtain ⟨⟨ra, rb⟩, -⟩ := steps_math h
  have cA := fsum_term a ra
  have cB := fsum_term b rb
  have cS := fun g w => fsum_steps g n a b m h w
  obtain ⟨n0, n1, a0, a1, b0', b1, m1, m2⟩ := h
  rw [show trB a = true from decide_eq_true ⟨a0, a1⟩] at cA
  rw [show trB b = true from decide_eq_true ⟨b0', b1⟩] at cB
  clear c0 ra rb a0 a1 b0' b1
  generalize fl n.toNat a b m = F at *
  go_enter Try.func80, Try.ntmps80
  go_wp2_with fail
  refine (cA _).mono ?_
  rintro e w1 ⟨rfl, hb1⟩
  have f_r1 := kp hb1 (na _ _ _)
  have hB1 := bB (bA (b0 w) _) hb1
  obtain ⟨zr_a, zr_b, lr1⟩ := rcell f_r1
  go_wp2_with fail
  refine (cB _).mono ?_
  rintro e w2 ⟨rfl, hb2⟩
  have f_r2 := kp hb2 (f_r1)
  have hB2 := bB hB1 hb2
  clear zr_a zr_b
  obtain ⟨zr_a, zr_b, lr2⟩ := rcell f_r2
  go_wp2_with fail
  refine (cS _ _ (f_r2)).mono ?_
  rintro e w3 ⟨rfl, hx3, f_r3⟩
  have hB3 := bX hB2 hx3 (by omega)
  clear zr_a zr_b
  obtain ⟨zr_a, zr_b, lr3⟩ := rcell f_r3
  go_wp2_with fail
  refine (hd _ _ (f_r3)).mono ?_
  rintro e w4 ⟨rfl, hx4⟩
  have hB4 := bX hB3 hx4 (by omega)
  clear zr_a zr_b
  go_wp2_with fail
  go_ret2
  exact ⟨rfl, hB4⟩

set_option maxRecDepth 100000 in
theorem tellsR_1 (n a b m : Int) (fn : Fn) (first cap : Array Value) (ra : Rng a) (rb : Rng b) (h1 : n < 0) (w : World) :
    Calls Try.prog 80 #[.agg #[.int .i64 0, .int .u64 0, .int .i64 n, .int .i64 (hi a), .int .u64 (lo a), .int .i64 (hi b), .int .u64 (lo b), .int .i64 m], .func fn first cap] w fun e w' => e = .returned (.tuple #[.int .i64 0, .int .i64 2]) ∧ Below w.heap.size w w' := by
  go_enter Try.func80, Try.ntmps80
  go_wp2
  go_ret2
  exact ⟨rfl, (bA (b0 w) _)⟩

set_option maxRecDepth 100000 in
theorem tellsR_2 (n a b m : Int) (fn : Fn) (first cap : Array Value) (ra : Rng a) (rb : Rng b) (h1 : 0 ≤ n) (h2 : 256 < n) (w : World) :
    Calls Try.prog 80 #[.agg #[.int .i64 0, .int .u64 0, .int .i64 n, .int .i64 (hi a), .int .u64 (lo a), .int .i64 (hi b), .int .u64 (lo b), .int .i64 m], .func fn first cap] w fun e w' => e = .returned (.tuple #[.int .i64 0, .int .i64 2]) ∧ Below w.heap.size w w' := by
  go_enter Try.func80, Try.ntmps80
  go_wp2
  go_ret2
  exact ⟨rfl, (bA (b0 w) _)⟩

set_option maxRecDepth 100000 in
theorem tellsR_3 (n a b m : Int) (fn : Fn) (first cap : Array Value) (ra : Rng a) (rb : Rng b) (h1 : 0 ≤ n) (h2 : n ≤ 256) (hA : trB a = false) (w : World) :
    Calls Try.prog 80 #[.agg #[.int .i64 0, .int .u64 0, .int .i64 n, .int .i64 (hi a), .int .u64 (lo a), .int .i64 (hi b), .int .u64 (lo b), .int .i64 m], .func fn first cap] w fun e w' => e = .returned (.tuple #[.int .i64 0, .int .i64 2]) ∧ Below w.heap.size w w' := by
  have cA := fsum_term a ra
  rw [hA] at cA
  go_enter Try.func80, Try.ntmps80
  go_wp2_with fail
  refine (cA _).mono ?_
  rintro e w1 ⟨rfl, hb1⟩
  have f_r1 := kp hb1 (na _ _ _)
  have hB1 := bB (bA (b0 w) _) hb1
  obtain ⟨zr_a, zr_b, lr1⟩ := rcell f_r1
  go_wp2
  go_ret2
  exact ⟨rfl, hB1⟩

set_option maxRecDepth 100000 in
theorem tellsR_4 (n a b m : Int) (fn : Fn) (first cap : Array Value) (ra : Rng a) (rb : Rng b) (h1 : 0 ≤ n) (h2 : n ≤ 256) (hA : trB a = true) (hB : trB b = false) (w : World) :
    Calls Try.prog 80 #[.agg #[.int .i64 0, .int .u64 0, .int .i64 n, .int .i64 (hi a), .int .u64 (lo a), .int .i64 (hi b), .int .u64 (lo b), .int .i64 m], .func fn first cap] w fun e w' => e = .returned (.tuple #[.int .i64 0, .int .i64 2]) ∧ Below w.heap.size w w' := by
  have cA := fsum_term a ra
  rw [hA] at cA
  have cB := fsum_term b rb
  rw [hB] at cB
  go_enter Try.func80, Try.ntmps80
  go_wp2_with fail
  refine (cA _).mono ?_
  rintro e w1 ⟨rfl, hb1⟩
  have f_r1 := kp hb1 (na _ _ _)
  have hB1 := bB (bA (b0 w) _) hb1
  obtain ⟨zr_a, zr_b, lr1⟩ := rcell f_r1
  go_wp2_with fail
  refine (cB _).mono ?_
  rintro e w2 ⟨rfl, hb2⟩
  have f_r2 := kp hb2 (f_r1)
  have hB2 := bB hB1 hb2
  clear zr_a zr_b
  obtain ⟨zr_a, zr_b, lr2⟩ := rcell f_r2
  go_wp2
  go_ret2
  exact ⟨rfl, hB2⟩

set_option maxRecDepth 100000 in
theorem tellsR_5 (n a b m : Int) (fn : Fn) (first cap : Array Value) (ra : Rng a) (rb : Rng b) (h1 : 0 ≤ n) (h2 : n ≤ 256) (hA : trB a = true) (hB : trB b = true) (h3 : m < 1) (w : World) :
    Calls Try.prog 80 #[.agg #[.int .i64 0, .int .u64 0, .int .i64 n, .int .i64 (hi a), .int .u64 (lo a), .int .i64 (hi b), .int .u64 (lo b), .int .i64 m], .func fn first cap] w fun e w' => e = .returned (.tuple #[.int .i64 0, .int .i64 2]) ∧ Below w.heap.size w w' := by
  have cA := fsum_term a ra
  rw [hA] at cA
  have cB := fsum_term b rb
  rw [hB] at cB
  go_enter Try.func80, Try.ntmps80
  go_wp2_with fail
  refine (cA _).mono ?_
  rintro e w1 ⟨rfl, hb1⟩
  have f_r1 := kp hb1 (na _ _ _)
  have hB1 := bB (bA (b0 w) _) hb1
  obtain ⟨zr_a, zr_b, lr1⟩ := rcell f_r1
  go_wp2_with fail
  refine (cB _).mono ?_
  rintro e w2 ⟨rfl, hb2⟩
  have f_r2 := kp hb2 (f_r1)
  have hB2 := bB hB1 hb2
  clear zr_a zr_b
  obtain ⟨zr_a, zr_b, lr2⟩ := rcell f_r2
  go_wp2
  go_ret2
  exact ⟨rfl, hB2⟩

set_option maxRecDepth 100000 in
theorem tellsR_6 (n a b m : Int) (fn : Fn) (first cap : Array Value) (ra : Rng a) (rb : Rng b) (h1 : 0 ≤ n) (h2 : n ≤ 256) (hA : trB a = true) (hB : trB b = true) (h3 : 1 ≤ m) (h4 : 281474976710656 < m) (w : World) :
    Calls Try.prog 80 #[.agg #[.int .i64 0, .int .u64 0, .int .i64 n, .int .i64 (hi a), .int .u64 (lo a), .int .i64 (hi b), .int .u64 (lo b), .int .i64 m], .func fn first cap] w fun e w' => e = .returned (.tuple #[.int .i64 0, .int .i64 2]) ∧ Below w.heap.size w w' := by
  have cA := fsum_term a ra
  rw [hA] at cA
  have cB := fsum_term b rb
  rw [hB] at cB
  go_enter Try.func80, Try.ntmps80
  go_wp2_with fail
  refine (cA _).mono ?_
  rintro e w1 ⟨rfl, hb1⟩
  have f_r1 := kp hb1 (na _ _ _)
  have hB1 := bB (bA (b0 w) _) hb1
  obtain ⟨zr_a, zr_b, lr1⟩ := rcell f_r1
  go_wp2_with fail
  refine (cB _).mono ?_
  rintro e w2 ⟨rfl, hb2⟩
  have f_r2 := kp hb2 (f_r1)
  have hB2 := bB hB1 hb2
  clear zr_a zr_b
  obtain ⟨zr_a, zr_b, lr2⟩ := rcell f_r2
  go_wp2
  go_ret2
  exact ⟨rfl, hB2⟩

end Go.Proofs.Ytlgjapjcdpikeaa
