/- yearbooklaw06 at this program: low, plus, asks, near, wakes. -/
import Derived.Test.YtlgjapjcdpikeaaFsum6
set_option linter.unusedSimpArgs false
set_option linter.unusedVariables false
namespace Go.Proofs.Ytlgjapjcdpikeaa
open Go.RowKit

theorem law6_low (x : Int) (h1 : -9223372036854775808 ≤ x) (h2 : x < 9223372036854775808) (w : World) :
    Calls Try.prog 50 #[.int .i64 x] w fun e w' => e = .returned (.agg #[.int .i64 (hi x), .int .u64 (lo x)]) ∧ Below w.heap.size w w' := by
  go_enter Try.func50, Try.ntmps50
  go_wp2
  refine bodyPost_ret (by simp [results, Try.results50, go_sem]; try rfl) rfl ⟨?_, bA (b0 w) _⟩
  have e1 : x / 9223372036854775808 = hi x := by unfold hi; omega
  have e2 : IntKind.u64.wrap x = lo x := by rw [IntKind.wrap_u64]; rfl
  rw [e1, e2]

set_option maxRecDepth 100000 in
theorem law6_plus (a b n : Int) (ra : Rng a) (rb : Rng b) (n1 : -9223372036854775808 ≤ n) (n2 : n < 9223372036854775808) (rp : Rng (b * n)) (rs : Rng (a + b * n)) (w : World) :
    Calls Try.prog 49 #[.agg #[.int .i64 (hi a), .int .u64 (lo a)], .agg #[.int .i64 (hi b), .int .u64 (lo b)], .int .i64 n] w fun e w' => e = .returned (.agg #[.int .i64 (hi (a + b * n)), .int .u64 (lo (a + b * n))]) ∧ Below w.heap.size w w' := by
  have c1 := wide_Scale b n rb n1 n2 rp
  have c2 := wide_Add a (b * n) ra rp rs
  generalize b * n = p at *
  generalize a + p = s at *
  go_enter Try.func49, Try.ntmps49
  go_wp2_with fail
  refine (c1 _).mono ?_
  rintro e w1 ⟨rfl, hb1⟩
  have f_a1 := kp hb1 (ka (ka (na _ _ _) _) _)
  have f_b1 := kp hb1 (ka (na1 _ _ _ _) _)
  have f_o1 := kp hb1 (na2 _ _ _ _ _)
  have hB1 := bB (bA (bA (bA (b0 w) _) _) _) hb1
  obtain ⟨za_a, za_b, la1⟩ := rcell f_a1
  obtain ⟨zb_a, zb_b, lb1⟩ := rcell f_b1
  obtain ⟨zo_a, zo_b, lo1⟩ := rcell f_o1
  go_wp2_with fail
  refine (c2 _).mono ?_
  rintro e w2 ⟨rfl, hb2⟩
  have f_a2 := kp hb2 (ka (f_a1) _)
  have f_b2 := kp hb2 (ka (f_b1) _)
  have f_o2 := kp hb2 (ka (f_o1) _)
  have f_p2 := kp hb2 (na _ _ _)
  have hB2 := bB (bA hB1 _) hb2
  clear za_a za_b zb_a zb_b zo_a zo_b
  obtain ⟨za_a, za_b, la2⟩ := rcell f_a2
  obtain ⟨zb_a, zb_b, lb2⟩ := rcell f_b2
  obtain ⟨zo_a, zo_b, lo2⟩ := rcell f_o2
  obtain ⟨zp_a, zp_b, lp2⟩ := rcell f_p2
  go_wp2_with fail
  rw [row2 (f_o2)]
  generalize hT : setRow _ _ _ = wE
  obtain ⟨hbE, hgE⟩ := ret_row hB2 (by omega) (f_o2) hT
  have zE := (rcell hgE).1
  have zL := (rcell hgE).2.2
  clear hT
  refine bodyPost_ret (by simp [results, Try.results49, go_sem, zE, zL]; try rfl) rfl ?_
  exact ⟨rfl, bA hbE _⟩

set_option maxRecDepth 100000 in
theorem law6_asks (n a b m : Int) (h : RowOk n a b m) (w : World) :
    Calls Try.prog 48 #[.agg #[.int .i64 n, .int .i64 (hi a), .int .u64 (lo a), .int .i64 (hi b), .int .u64 (lo b), .int .i64 m]] w fun e w' => e = .returned (.tuple #[.agg #[.int .i64 (hi (fl n.toNat a b m)), .int .u64 (lo (fl n.toNat a b m))], .bool true]) ∧ Below w.heap.size w w' := by
  have c1 := fsum_Sum n a b m h
  clear h
  generalize fl n.toNat a b m = F at *
  go_enter Try.func48, Try.ntmps48
  go_wp2_with fail
  refine (c1 _).mono ?_
  rintro e w1 ⟨rfl, hb1⟩
  have f_x1 := kp hb1 (ka (na _ _ _) _)
  have f_o1 := kp hb1 (na1 _ _ _ _)
  have hB1 := bB (bA (bA (b0 w) _) _) hb1
  obtain ⟨zx_a, zx_b, lx1⟩ := rcell f_x1
  obtain ⟨zo_a, zo_b, lo1⟩ := rcell f_o1
  go_wp2_with fail
  rw [row2 (f_o1)]
  generalize hT : setRow _ _ _ = wE
  obtain ⟨hbE, hgE⟩ := ret_row hB1 (by omega) (f_o1) hT
  have zE := (rcell hgE).1
  have zL := (rcell hgE).2.2
  clear hT
  refine bodyPost_ret (by simp [results, Try.results48, go_sem, zE, zL]; try rfl) rfl ?_
  exact ⟨rfl, bA hbE _⟩

/-- what near hands back -/
structure NearOk (n a b m : Int) : Prop where
  n0 : 0 ≤ n
  n1 : n ≤ 256
  a0 : -1267650600228229401496703205376 ≤ a
  a1 : a < 1267650600228229401496703205376
  b0 : -1267650600228229401496703205376 ≤ b
  b1 : b < 1267650600228229401496703205376
  m1 : 1 ≤ m
  m2 : m ≤ 281474976710656
theorem NearOk.row {n a b m : Int} (h : NearOk n a b m) : RowOk n a b m := by
  obtain ⟨n0, n1, a0, a1, b0, b1, m1, m2⟩ := h
  exact ⟨n0, n1, by omega, by omega, by omega, by omega, m1, m2⟩

set_option maxRecDepth 100000 in
set_option maxHeartbeats 1000000 in
theorem near_pp (n ah al bh bl m qa qb : Int) (hn : 0 ≤ n) (hm : 0 ≤ m) (hn2 : n < 9223372036854775808) (hm2 : m < 9223372036854775808) (ha : ah.tmod 68719476736 = qa) (hb : bh.tmod 68719476736 = qb) (w : World) :
    Calls Try.prog 47 #[.agg #[.int .i64 n, .int .i64 ah, .int .u64 al, .int .i64 bh, .int .u64 bl, .int .i64 m]] w fun e w' => e = .returned (.agg #[.int .i64 (n % 257), .int .i64 qa, .int .u64 al, .int .i64 qb, .int .u64 bl, .int .i64 (m % 281474976710656 + 1)]) ∧ Below w.heap.size w w' := by
  have e1 : max n 0 = n := by omega
  have e2 : max m 0 = m := by omega
  have hq : 0 ≤ m % 281474976710656 ∧ m % 281474976710656 < 281474976710656 := by omega
  obtain ⟨q1, q2⟩ := hq
  go_enter Try.func47, Try.ntmps47
  go_wp2
  refine bodyPost_ret (by simp [results, Try.results47, go_sem]; try rfl) rfl ⟨rfl, (bA (bA (b0 w) _) _)⟩

set_option maxRecDepth 100000 in
set_option maxHeartbeats 1000000 in
theorem near_pn (n ah al bh bl m qa qb : Int) (hn : 0 ≤ n) (hm : m < 0) (hn2 : n < 9223372036854775808) (hm2 : m < 9223372036854775808) (ha : ah.tmod 68719476736 = qa) (hb : bh.tmod 68719476736 = qb) (w : World) :
    Calls Try.prog 47 #[.agg #[.int .i64 n, .int .i64 ah, .int .u64 al, .int .i64 bh, .int .u64 bl, .int .i64 m]] w fun e w' => e = .returned (.agg #[.int .i64 (n % 257), .int .i64 qa, .int .u64 al, .int .i64 qb, .int .u64 bl, .int .i64 1]) ∧ Below w.heap.size w w' := by
  have e1 : max n 0 = n := by omega
  have e2 : max m 0 = 0 := by omega
  have hq : 0 ≤ m % 281474976710656 ∧ m % 281474976710656 < 281474976710656 := by omega
  obtain ⟨q1, q2⟩ := hq
  go_enter Try.func47, Try.ntmps47
  go_wp2
  refine bodyPost_ret (by simp [results, Try.results47, go_sem]; try rfl) rfl ⟨rfl, (bA (bA (b0 w) _) _)⟩

set_option maxRecDepth 100000 in
set_option maxHeartbeats 1000000 in
theorem near_np (n ah al bh bl m qa qb : Int) (hn : n < 0) (hm : 0 ≤ m) (hn2 : n < 9223372036854775808) (hm2 : m < 9223372036854775808) (ha : ah.tmod 68719476736 = qa) (hb : bh.tmod 68719476736 = qb) (w : World) :
    Calls Try.prog 47 #[.agg #[.int .i64 n, .int .i64 ah, .int .u64 al, .int .i64 bh, .int .u64 bl, .int .i64 m]] w fun e w' => e = .returned (.agg #[.int .i64 0, .int .i64 qa, .int .u64 al, .int .i64 qb, .int .u64 bl, .int .i64 (m % 281474976710656 + 1)]) ∧ Below w.heap.size w w' := by
  have e1 : max n 0 = 0 := by omega
  have e2 : max m 0 = m := by omega
  have hq : 0 ≤ m % 281474976710656 ∧ m % 281474976710656 < 281474976710656 := by omega
  obtain ⟨q1, q2⟩ := hq
  go_enter Try.func47, Try.ntmps47
  go_wp2
  refine bodyPost_ret (by simp [results, Try.results47, go_sem]; try rfl) rfl ⟨rfl, (bA (bA (b0 w) _) _)⟩

set_option maxRecDepth 100000 in
set_option maxHeartbeats 1000000 in
theorem near_nn (n ah al bh bl m qa qb : Int) (hn : n < 0) (hm : m < 0) (hn2 : n < 9223372036854775808) (hm2 : m < 9223372036854775808) (ha : ah.tmod 68719476736 = qa) (hb : bh.tmod 68719476736 = qb) (w : World) :
    Calls Try.prog 47 #[.agg #[.int .i64 n, .int .i64 ah, .int .u64 al, .int .i64 bh, .int .u64 bl, .int .i64 m]] w fun e w' => e = .returned (.agg #[.int .i64 0, .int .i64 qa, .int .u64 al, .int .i64 qb, .int .u64 bl, .int .i64 1]) ∧ Below w.heap.size w w' := by
  have e1 : max n 0 = 0 := by omega
  have e2 : max m 0 = 0 := by omega
  have hq : 0 ≤ m % 281474976710656 ∧ m % 281474976710656 < 281474976710656 := by omega
  obtain ⟨q1, q2⟩ := hq
  go_enter Try.func47, Try.ntmps47
  go_wp2
  refine bodyPost_ret (by simp [results, Try.results47, go_sem]; try rfl) rfl ⟨rfl, (bA (bA (b0 w) _) _)⟩

theorem law6_near (n ah al bh bl m : Int) (hn2 : n < 9223372036854775808) (hm2 : m < 9223372036854775808) (a0 : 0 ≤ al) (a1 : al < 18446744073709551616) (b0 : 0 ≤ bl) (b1 : bl < 18446744073709551616) :
    ∃ N A B M : Int, NearOk N A B M ∧ (bh = 0 ∧ bl = 0 → B = 0) ∧ ∀ w : World, Calls Try.prog 47 #[.agg #[.int .i64 n, .int .i64 ah, .int .u64 al, .int .i64 bh, .int .u64 bl, .int .i64 m]] w fun e w' => e = .returned (.agg #[.int .i64 N, .int .i64 (hi A), .int .u64 (lo A), .int .i64 (hi B), .int .u64 (lo B), .int .i64 M]) ∧ Below w.heap.size w w' := by
  have t : ∀ x : Int, -68719476736 < x.tmod 68719476736 ∧ x.tmod 68719476736 < 68719476736 := by
    intro x
    have k1 := Int.tmod_lt_of_pos x (show (0 : Int) < 68719476736 by decide)
    have k2 := Int.tmod_lt_of_pos (-x) (show (0 : Int) < 68719476736 by decide)
    rw [Int.neg_tmod] at k2
    omega
  have ta := t ah
  have tb := t bh
  have z : bh = 0 → bh.tmod 68719476736 = 0 := by rintro rfl; rfl
  generalize ha : ah.tmod 68719476736 = qa at *
  generalize hb : bh.tmod 68719476736 = qb at *
  obtain ⟨x1, x2⟩ := hi_eq (x := qa * 18446744073709551616 + al) rfl a0 a1
  obtain ⟨y1, y2⟩ := hi_eq (x := qb * 18446744073709551616 + bl) rfl b0 b1
  have hB : bh = 0 ∧ bl = 0 → qb * 18446744073709551616 + bl = 0 := fun ⟨h1, h2⟩ => by rw [z h1, h2]; rfl
  by_cases hn : 0 ≤ n <;> by_cases hm : 0 ≤ m
  · refine ⟨n % 257, qa * 18446744073709551616 + al, qb * 18446744073709551616 + bl, m % 281474976710656 + 1, ⟨by omega, by omega, by omega, by omega, by omega, by omega, by omega, by omega⟩, hB, ?_⟩
    rw [← x1, ← x2, ← y1, ← y2]
    exact near_pp n ah al bh bl m qa qb hn hm hn2 hm2 ha hb
  · refine ⟨n % 257, qa * 18446744073709551616 + al, qb * 18446744073709551616 + bl, 1, ⟨by omega, by omega, by omega, by omega, by omega, by omega, by omega, by omega⟩, hB, ?_⟩
    rw [← x1, ← x2, ← y1, ← y2]
    exact near_pn n ah al bh bl m qa qb hn (by omega) hn2 hm2 ha hb
  · refine ⟨0, qa * 18446744073709551616 + al, qb * 18446744073709551616 + bl, m % 281474976710656 + 1, ⟨by omega, by omega, by omega, by omega, by omega, by omega, by omega, by omega⟩, hB, ?_⟩
    rw [← x1, ← x2, ← y1, ← y2]
    exact near_np n ah al bh bl m qa qb (by omega) hm hn2 hm2 ha hb
  · refine ⟨0, qa * 18446744073709551616 + al, qb * 18446744073709551616 + bl, 1, ⟨by omega, by omega, by omega, by omega, by omega, by omega, by omega, by omega⟩, hB, ?_⟩
    rw [← x1, ← x2, ← y1, ← y2]
    exact near_nn n ah al bh bl m qa qb (by omega) (by omega) hn2 hm2 ha hb

set_option maxRecDepth 100000 in
set_option maxHeartbeats 4000000 in
theorem wakes6 (w : World) : Calls Try.prog 40 #[] w fun e w' => e = .returned (.bool true) ∧ Below w.heap.size w w' := by
  have r1 : RowOk 4 3 1 2 := ⟨by decide, by decide, by decide, by decide, by decide, by decide, by decide, by decide⟩
  have r2 : RowOk 3 (-1) 0 2 := ⟨by decide, by decide, by decide, by decide, by decide, by decide, by decide, by decide⟩
  have r3 : ¬ RowOk 257 0 0 1 := fun h => absurd h.n1 (by decide)
  have c1 := fsum_Sum 4 3 1 2 r1
  rw [show fl (4 : Int).toNat 3 1 2 = 10 by decide +kernel] at c1
  have c2 := fsum_Sum 3 (-1) 0 2 r2
  rw [show fl (3 : Int).toNat (-1) 0 2 = -2 by decide +kernel] at c2
  have c3 := fsum_Rests 4 3 1 2 r1
  rw [show rs (4 : Int).toNat 3 1 2 = 2 by decide +kernel] at c3
  have c4 := fsum_Line 10 1 (-3) 2 0 1 3 (by decide +kernel) (by decide) (by decide) (by decide) (by decide) (by decide) (by decide) (by decide)
  rw [show flnQ 10 1 (-3) 2 0 1 3 = 26 by decide +kernel] at c4
  have c5 := fsum_Sum_no 257 0 0 1 ⟨by decide, by decide⟩ ⟨by decide, by decide⟩ r3
  have L := fun x h1 h2 => law6_low x h1 h2
  clear r1 r2 r3
  go_enter Try.func40, Try.ntmps40
  go_wp2_with fail
  refine (law6_low 3 (by decide) (by decide) _).mono ?_
  rintro e w1 ⟨rfl, hb1⟩
  have hB1 := bB (b0 w) hb1
  go_wp2_with fail
  refine (law6_low 1 (by decide) (by decide) _).mono ?_
  rintro e w2 ⟨rfl, hb2⟩
  have hB2 := bB hB1 hb2
  go_wp2_with fail
  refine (c1 _).mono ?_
  rintro e w3 ⟨rfl, hb3⟩
  have hB3 := bB hB2 hb3
  go_wp2_with fail
  refine (law6_low (-1) (by decide) (by decide) _).mono ?_
  rintro e w4 ⟨rfl, hb4⟩
  have f_s14 := kp hb4 (na w3 #[.int .i64 (hi 10), .int .u64 (lo 10)] 46)
  have hB4 := bB (bA hB3 (.cells #[.int .i64 (hi 10), .int .u64 (lo 10)] 46)) hb4
  obtain ⟨zs1_a, zs1_b, ls14⟩ := rcell f_s14
  go_wp2_with fail
  refine (law6_low 0 (by decide) (by decide) _).mono ?_
  rintro e w5 ⟨rfl, hb5⟩
  have f_s15 := kp hb5 (f_s14)
  have hB5 := bB hB4 hb5
  clear zs1_a zs1_b
  obtain ⟨zs1_a, zs1_b, ls15⟩ := rcell f_s15
  go_wp2_with fail
  refine (c2 _).mono ?_
  rintro e w6 ⟨rfl, hb6⟩
  have f_s16 := kp hb6 (f_s15)
  have hB6 := bB hB5 hb6
  clear zs1_a zs1_b
  obtain ⟨zs1_a, zs1_b, ls16⟩ := rcell f_s16
  go_wp2_with fail
  refine (law6_low 3 (by decide) (by decide) _).mono ?_
  rintro e w7 ⟨rfl, hb7⟩
  have f_s17 := kp hb7 (ka (f_s16) (.cells #[.int .i64 (hi (-2)), .int .u64 (lo (-2))] 46))
  have f_s27 := kp hb7 (na w6 #[.int .i64 (hi (-2)), .int .u64 (lo (-2))] 46)
  have hB7 := bB (bA hB6 (.cells #[.int .i64 (hi (-2)), .int .u64 (lo (-2))] 46)) hb7
  clear zs1_a zs1_b
  obtain ⟨zs1_a, zs1_b, ls17⟩ := rcell f_s17
  obtain ⟨zs2_a, zs2_b, ls27⟩ := rcell f_s27
  go_wp2_with fail
  refine (law6_low 1 (by decide) (by decide) _).mono ?_
  rintro e w8 ⟨rfl, hb8⟩
  have f_s18 := kp hb8 (f_s17)
  have f_s28 := kp hb8 (f_s27)
  have hB8 := bB hB7 hb8
  clear zs1_a zs1_b zs2_a zs2_b
  obtain ⟨zs1_a, zs1_b, ls18⟩ := rcell f_s18
  obtain ⟨zs2_a, zs2_b, ls28⟩ := rcell f_s28
  go_wp2_with fail
  refine (c3 _).mono ?_
  rintro e w9 ⟨rfl, hb9⟩
  have f_s19 := kp hb9 (f_s18)
  have f_s29 := kp hb9 (f_s28)
  have hB9 := bB hB8 hb9
  clear zs1_a zs1_b zs2_a zs2_b
  obtain ⟨zs1_a, zs1_b, ls19⟩ := rcell f_s19
  obtain ⟨zs2_a, zs2_b, ls29⟩ := rcell f_s29
  go_wp2_with fail
  refine (c4 _).mono ?_
  rintro e w10 ⟨rfl, hb10⟩
  have f_s110 := kp hb10 (f_s19)
  have f_s210 := kp hb10 (f_s29)
  have hB10 := bB hB9 hb10
  clear zs1_a zs1_b zs2_a zs2_b
  obtain ⟨zs1_a, zs1_b, ls110⟩ := rcell f_s110
  obtain ⟨zs2_a, zs2_b, ls210⟩ := rcell f_s210
  go_wp2_with fail
  refine (law6_low 0 (by decide) (by decide) _).mono ?_
  rintro e w11 ⟨rfl, hb11⟩
  have f_s111 := kp hb11 (ka (f_s110) (.cells #[.int .i64 (hi 26), .int .u64 (lo 26)] 46))
  have f_s211 := kp hb11 (ka (f_s210) (.cells #[.int .i64 (hi 26), .int .u64 (lo 26)] 46))
  have f_s311 := kp hb11 (na w10 #[.int .i64 (hi 26), .int .u64 (lo 26)] 46)
  have hB11 := bB (bA hB10 (.cells #[.int .i64 (hi 26), .int .u64 (lo 26)] 46)) hb11
  clear zs1_a zs1_b zs2_a zs2_b
  obtain ⟨zs1_a, zs1_b, ls111⟩ := rcell f_s111
  obtain ⟨zs2_a, zs2_b, ls211⟩ := rcell f_s211
  obtain ⟨zs3_a, zs3_b, ls311⟩ := rcell f_s311
  go_wp2_with fail
  refine (law6_low 0 (by decide) (by decide) _).mono ?_
  rintro e w12 ⟨rfl, hb12⟩
  have f_s112 := kp hb12 (f_s111)
  have f_s212 := kp hb12 (f_s211)
  have f_s312 := kp hb12 (f_s311)
  have hB12 := bB hB11 hb12
  clear zs1_a zs1_b zs2_a zs2_b zs3_a zs3_b
  obtain ⟨zs1_a, zs1_b, ls112⟩ := rcell f_s112
  obtain ⟨zs2_a, zs2_b, ls212⟩ := rcell f_s212
  obtain ⟨zs3_a, zs3_b, ls312⟩ := rcell f_s312
  go_wp2_with fail
  refine (c5 _).mono ?_
  rintro e w13 ⟨rfl, hb13⟩
  have f_s113 := kp hb13 (f_s112)
  have f_s213 := kp hb13 (f_s212)
  have f_s313 := kp hb13 (f_s312)
  have hB13 := bB hB12 hb13
  clear zs1_a zs1_b zs2_a zs2_b zs3_a zs3_b
  obtain ⟨zs1_a, zs1_b, ls113⟩ := rcell f_s113
  obtain ⟨zs2_a, zs2_b, ls213⟩ := rcell f_s213
  obtain ⟨zs3_a, zs3_b, ls313⟩ := rcell f_s313
  go_wp2_with fail
  have f_s114 := (ka (f_s113) (.cells #[.int .i64 0, .int .u64 0] 46))
  have f_s214 := (ka (f_s213) (.cells #[.int .i64 0, .int .u64 0] 46))
  have f_s314 := (ka (f_s313) (.cells #[.int .i64 0, .int .u64 0] 46))
  have f_s414 := (na w13 #[.int .i64 0, .int .u64 0] 46)
  have hB14 := (bA hB13 (.cells #[.int .i64 0, .int .u64 0] 46))
  clear zs1_a zs1_b zs2_a zs2_b zs3_a zs3_b
  have ls114 := (rcell f_s114).2.2
  have ls214 := (rcell f_s214).2.2
  have ls314 := (rcell f_s314).2.2
  have ls414 := (rcell f_s414).2.2
  refine Abs.wp_region_abs (Abs.cls0 _) [0, 1, 2, 3, 4, 5, 6, 7, 8, 9, 10, 11, 12, 13, 14, 15, 16, 17, 18, 19, 20, 21, 22, 23, 24, 25, 26, 27, 28, 29, 30, 31, 32, 33, 34, 35, 36, 37] (by kernel_rfl) (by kernel_rfl) (Below.refl _ _).drew ?_
  repeat (first | (refine Abs.step_pure rfl rfl (fun K hK => ?_); go_simp; (try go_bits); (first | refine hK _ _ ?_ | (simp only [↓IntWalk.iteOmega]; go_simp; (try go_bits); refine hK _ _ ?_)); clear hK K) | (refine Abs.step_load (v := ?_) rfl rfl (by kernel_rfl) rfl (fun w0 hI => ?_) (fun K hK => ?_); rotate_left; (· have z0 := (rcell (kp hI (f_s114))).1; have z1 := (rcell (kp hI (f_s214))).1; have z2 := (rcell (kp hI (f_s314))).1; have z3 := (rcell (kp hI (f_s414))).1; go_simp; rfl); (simp only [Act.put, List.setIfInBounds_toArray, List.set_cons_zero, List.set_cons_succ]; refine hK _ _ ?_; clear hK K)) | (refine Abs.step_skip rfl rfl (fun K hK => ?_); (simp only [Act.put, List.setIfInBounds_toArray, List.set_cons_zero, List.set_cons_succ]; refine hK _ _ ?_; clear hK K)))
  (refine Abs.step_call_val (f := ?_) (args := ?_) (v := ?_) rfl rfl rfl rfl (fun w0 => ?_) (fun w0 hI => ?_) (fun K hK => ?_); rotate_left 3; (· go_simp; (constructor <;> rfl)); (· exact law6_low 10 (by decide) (by decide) _); (simp only [Act.put, List.setIfInBounds_toArray, List.set_cons_zero, List.set_cons_succ]; refine hK _ _ ?_; clear hK K))
  repeat (first | (refine Abs.step_pure rfl rfl (fun K hK => ?_); go_simp; (try go_bits); (first | refine hK _ _ ?_ | (simp only [↓IntWalk.iteOmega]; go_simp; (try go_bits); refine hK _ _ ?_)); clear hK K) | (refine Abs.step_load (v := ?_) rfl rfl (by kernel_rfl) rfl (fun w0 hI => ?_) (fun K hK => ?_); rotate_left; (· have z0 := (rcell (kp hI (f_s114))).1; have z1 := (rcell (kp hI (f_s214))).1; have z2 := (rcell (kp hI (f_s314))).1; have z3 := (rcell (kp hI (f_s414))).1; go_simp; rfl); (simp only [Act.put, List.setIfInBounds_toArray, List.set_cons_zero, List.set_cons_succ]; refine hK _ _ ?_; clear hK K)) | (refine Abs.step_skip rfl rfl (fun K hK => ?_); (simp only [Act.put, List.setIfInBounds_toArray, List.set_cons_zero, List.set_cons_succ]; refine hK _ _ ?_; clear hK K)))
  (refine Abs.step_call_val (f := ?_) (args := ?_) (v := ?_) rfl rfl rfl rfl (fun w0 => ?_) (fun w0 hI => ?_) (fun K hK => ?_); rotate_left 3; (· go_simp; (constructor <;> rfl)); (· exact law6_low (-2) (by decide) (by decide) _); (simp only [Act.put, List.setIfInBounds_toArray, List.set_cons_zero, List.set_cons_succ]; refine hK _ _ ?_; clear hK K))
  repeat (first | (refine Abs.step_pure rfl rfl (fun K hK => ?_); go_simp; (try go_bits); (first | refine hK _ _ ?_ | (simp only [↓IntWalk.iteOmega]; go_simp; (try go_bits); refine hK _ _ ?_)); clear hK K) | (refine Abs.step_load (v := ?_) rfl rfl (by kernel_rfl) rfl (fun w0 hI => ?_) (fun K hK => ?_); rotate_left; (· have z0 := (rcell (kp hI (f_s114))).1; have z1 := (rcell (kp hI (f_s214))).1; have z2 := (rcell (kp hI (f_s314))).1; have z3 := (rcell (kp hI (f_s414))).1; go_simp; rfl); (simp only [Act.put, List.setIfInBounds_toArray, List.set_cons_zero, List.set_cons_succ]; refine hK _ _ ?_; clear hK K)) | (refine Abs.step_skip rfl rfl (fun K hK => ?_); (simp only [Act.put, List.setIfInBounds_toArray, List.set_cons_zero, List.set_cons_succ]; refine hK _ _ ?_; clear hK K)))
  (refine Abs.step_call_val (f := ?_) (args := ?_) (v := ?_) rfl rfl rfl rfl (fun w0 => ?_) (fun w0 hI => ?_) (fun K hK => ?_); rotate_left 3; (· go_simp; (constructor <;> rfl)); (· exact law6_low 26 (by decide) (by decide) _); (simp only [Act.put, List.setIfInBounds_toArray, List.set_cons_zero, List.set_cons_succ]; refine hK _ _ ?_; clear hK K))
  repeat (first | (refine Abs.step_pure rfl rfl (fun K hK => ?_); go_simp; (try go_bits); (first | refine hK _ _ ?_ | (simp only [↓IntWalk.iteOmega]; go_simp; (try go_bits); refine hK _ _ ?_)); clear hK K) | (refine Abs.step_load (v := ?_) rfl rfl (by kernel_rfl) rfl (fun w0 hI => ?_) (fun K hK => ?_); rotate_left; (· have z0 := (rcell (kp hI (f_s114))).1; have z1 := (rcell (kp hI (f_s214))).1; have z2 := (rcell (kp hI (f_s314))).1; have z3 := (rcell (kp hI (f_s414))).1; go_simp; rfl); (simp only [Act.put, List.setIfInBounds_toArray, List.set_cons_zero, List.set_cons_succ]; refine hK _ _ ?_; clear hK K)) | (refine Abs.step_skip rfl rfl (fun K hK => ?_); (simp only [Act.put, List.setIfInBounds_toArray, List.set_cons_zero, List.set_cons_succ]; refine hK _ _ ?_; clear hK K)))
  intro w15 hb15 hx0 hx1 hx2
  clear hx0 hx1 hx2
  simp only [Abs.T_setF, Abs.T_addA, Abs.T_push, Abs.T_start]
  have f_s115 := kp hb15 (f_s114)
  have f_s215 := kp hb15 (f_s214)
  have f_s315 := kp hb15 (f_s314)
  have f_s415 := kp hb15 (f_s414)
  have hB15 := bB hB14 hb15
  obtain ⟨zs1_a, zs1_b, ls115⟩ := rcell f_s115
  obtain ⟨zs2_a, zs2_b, ls215⟩ := rcell f_s215
  obtain ⟨zs3_a, zs3_b, ls315⟩ := rcell f_s315
  obtain ⟨zs4_a, zs4_b, ls415⟩ := rcell f_s415
  go_wp2
  go_ret
  exact ⟨by simp, hB15⟩
end Go.Proofs.Ytlgjapjcdpikeaa
