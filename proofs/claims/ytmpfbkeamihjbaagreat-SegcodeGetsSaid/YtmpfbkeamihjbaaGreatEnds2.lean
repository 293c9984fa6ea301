/- The package line at this program, on: Ends. -/
import Derived.Test.YtmpfbkeamihjbaaGreatEnds
set_option linter.unusedSimpArgs false
set_option linter.unusedVariables false
namespace Go.Proofs.YtmpfbkeamihjbaaGreat
open Go.RowKit

@[go_sem] theorem run_store_func {P : Program} {w : World} {a : Addr} {m : Mode} (fn : Fn) (first cap : Array Value) : (store a (.func fn first cap) m).run P w = stored P w a (.func fn first cap) m := run_store P w a _ m rfl

set_option maxRecDepth 100000 in
set_option maxHeartbeats 1000000 in
/-- the times are right, and both are told or not -/
theorem ends_5 (A R N D t0 t1 x0 x1 e : Int) (ht : t0 ≤ t1) (w : World)
    (c1 : ∀ w, Calls Tryz.prog 133 #[.agg #[.int .i64 A, .int .i64 R, .int .i64 N, .int .i64 D]] w fun e w' => e = .returned (.bool true) ∧ Below w.heap.size w w')
    (c2 : ∀ w, Calls Tryz.prog 134 #[.int .i64 t0] w fun e w' => e = .returned (.bool true) ∧ w = w')
    (c3 : ∀ w, Calls Tryz.prog 134 #[.int .i64 t1] w fun e w' => e = .returned (.bool true) ∧ w = w')
    (c4 : ∀ k w, fnAt A R N D k w → Calls Tryz.prog 136 #[.agg #[.int .i64 t0, .int .i64 t1], .func (Fn.func 137) #[] #[.pointer (some ⟨k, 0, none⟩)]] w fun x w' => x = .returned (.tuple #[.agg #[.int .i64 x0, .int .i64 x1], .int .i64 e]) ∧ Below w.heap.size w w') :
    Calls Tryz.prog 116 #[.agg #[.int .i64 A, .int .i64 R, .int .i64 N, .int .i64 D], .int .i64 t0, .int .i64 t1] w fun x w' => x = .returned (.tuple #[.agg #[.int .i64 (min x0 x1), .int .i64 (max x0 x1)], .int .i64 e]) ∧ Below w.heap.size w w' := by
  have hmf : ∀ (fn : Fn) (first cap : Array Value) (w : World), (Instr.makeFunc fn first cap).run Tryz.prog w = .ok (.func fn first cap) w := fun _ _ _ _ => rfl
  have nt : ¬ t1 < t0 := by omega
  have j0 := pair_addr0
  have j1 := pair_addr1
  go_enter Tryz.func116, Tryz.ntmps116
  go_wp2_with fail
  refine (c1 _).mono ?_
  rintro x w1 ⟨rfl, hb1⟩
  have a1 := kp hb1 (na2 w (.cells #[.int .i64 A, .int .i64 R, .int .i64 N, .int .i64 D] 24) (.cells #[.int .i64 0, .int .i64 0] 156) #[.int .i64 A, .int .i64 R, .int .i64 N, .int .i64 D] 179)
  have r1 := kp hb1 (ka (na1 w (.cells #[.int .i64 A, .int .i64 R, .int .i64 N, .int .i64 D] 24) #[.int .i64 0, .int .i64 0] 156) (.cells #[.int .i64 A, .int .i64 R, .int .i64 N, .int .i64 D] 179))
  have hB1 := bB (bA (bA (bA (b0 w) (.cells #[.int .i64 A, .int .i64 R, .int .i64 N, .int .i64 D] 24)) (.cells #[.int .i64 0, .int .i64 0] 156)) (.cells #[.int .i64 A, .int .i64 R, .int .i64 N, .int .i64 D] 179)) hb1
  obtain ⟨z1, z2, z3⟩ := rcell a1
  go_wp2_with fail
  refine (c2 _).mono ?_
  rintro x w2 ⟨rfl, rfl⟩
  go_wp2_with fail
  refine (c3 _).mono ?_
  rintro x w3 ⟨rfl, rfl⟩
  go_wp2_with fail
  refine (c4 _ _ (na w1 #[.func (Fn.func 135) #[.agg #[.int .i64 A, .int .i64 R, .int .i64 N, .int .i64 D]] #[]] 180)).mono ?_
  rintro x w4 ⟨rfl, hb4⟩
  have r4 := kp hb4 (ka r1 (.cells #[.func (Fn.func 135) #[.agg #[.int .i64 A, .int .i64 R, .int .i64 N, .int .i64 D]] #[]] 180))
  have hB4 := bB (bA hB1 (.cells #[.func (Fn.func 135) #[.agg #[.int .i64 A, .int .i64 R, .int .i64 N, .int .i64 D]] #[]] 180)) hb4
  obtain ⟨y1, y2, y3⟩ := rcell r4
  clear z1 z2 z3
  have n5 := na w4 #[.int .i64 x0, .int .i64 x1] 181
  have r5 := ka r4 (.cells #[.int .i64 x0, .int .i64 x1] 181)
  have hB5 := bA hB4 (.cells #[.int .i64 x0, .int .i64 x1] 181)
  obtain ⟨x1', x2', x3'⟩ := rcell n5
  obtain ⟨u1, u2, u3⟩ := rcell r5
  rcases Int.lt_trichotomy x0 x1 with hl | rfl | hl
  · have m1 : min x0 x1 = x0 := by omega
    have m2 : max x0 x1 = x1 := by omega
    have m3 : x0 ≤ x1 := by omega
    go_wp2_with fail
    rw [m1, m2]
    clear n5 r5 hB5 x1' x2' x3' u1 u2 u3
    (rw [row2 r4]; generalize hT : setRow _ _ _ = wE; obtain ⟨hbE, hgE⟩ := ret_row hB4 (by omega) r4 hT; have zE := (rcell hgE).1; have zL := (rcell hgE).2.2; clear hT; refine bodyPost_ret (by simp [results, Tryz.results116, go_sem, zE, zL]; try rfl) rfl ?_)
    exact ⟨rfl, bA hbE _⟩
  · have m1 : min x0 x0 = x0 := by omega
    have m2 : max x0 x0 = x0 := by omega
    go_wp2_with fail
    rw [m1, m2]
    clear n5 r5 hB5 x1' x2' x3' u1 u2 u3
    (rw [row2 r4]; generalize hT : setRow _ _ _ = wE; obtain ⟨hbE, hgE⟩ := ret_row hB4 (by omega) r4 hT; have zE := (rcell hgE).1; have zL := (rcell hgE).2.2; clear hT; refine bodyPost_ret (by simp [results, Tryz.results116, go_sem, zE, zL]; try rfl) rfl ?_)
    exact ⟨rfl, bA hbE _⟩
  · have m1 : min x0 x1 = x1 := by omega
    have m2 : max x0 x1 = x0 := by omega
    have m3 : ¬ x0 ≤ x1 := by omega
    go_wp2_with fail
    rw [m1, m2]
    clear n5 r5 hB5 x1' x2' x3' u1 u2 u3
    (rw [row2 r4]; generalize hT : setRow _ _ _ = wE; obtain ⟨hbE, hgE⟩ := ret_row hB4 (by omega) r4 hT; have zE := (rcell hgE).1; have zL := (rcell hgE).2.2; clear hT; refine bodyPost_ret (by simp [results, Tryz.results116, go_sem, zE, zL]; try rfl) rfl ?_)
    exact ⟨rfl, bA hbE _⟩
set_option maxRecDepth 100000 in
/-- no line -/
theorem ends_1 (A R N D t0 t1 : Int) (w : World)
    (c1 : ∀ w, Calls Tryz.prog 133 #[.agg #[.int .i64 A, .int .i64 R, .int .i64 N, .int .i64 D]] w fun e w' => e = .returned (.bool false) ∧ Below w.heap.size w w')
    :
    Calls Tryz.prog 116 #[.agg #[.int .i64 A, .int .i64 R, .int .i64 N, .int .i64 D], .int .i64 t0, .int .i64 t1] w fun x w' => x = .returned (.tuple #[.agg #[.int .i64 0, .int .i64 0], .int .i64 150]) ∧ Below w.heap.size w w' := by
  go_enter Tryz.func116, Tryz.ntmps116
  go_wp2_with fail
  refine (c1 _).mono ?_
  rintro x w1 ⟨rfl, hb1⟩
  have a1 := kp hb1 (na2 w (.cells #[.int .i64 A, .int .i64 R, .int .i64 N, .int .i64 D] 24) (.cells #[.int .i64 0, .int .i64 0] 156) #[.int .i64 A, .int .i64 R, .int .i64 N, .int .i64 D] 179)
  have r1 := kp hb1 (ka (na1 w (.cells #[.int .i64 A, .int .i64 R, .int .i64 N, .int .i64 D] 24) #[.int .i64 0, .int .i64 0] 156) (.cells #[.int .i64 A, .int .i64 R, .int .i64 N, .int .i64 D] 179))
  have hB1 := bB (bA (bA (bA (b0 w) (.cells #[.int .i64 A, .int .i64 R, .int .i64 N, .int .i64 D] 24)) (.cells #[.int .i64 0, .int .i64 0] 156)) (.cells #[.int .i64 A, .int .i64 R, .int .i64 N, .int .i64 D] 179)) hb1
  obtain ⟨z1, z2, z3⟩ := rcell a1
  obtain ⟨y1, y2, y3⟩ := rcell r1
  go_wp2_with fail
  (rw [row2 r1]; generalize hT : setRow _ _ _ = wE; obtain ⟨hbE, hgE⟩ := ret_row hB1 (by omega) r1 hT; have zE := (rcell hgE).1; clear hT; refine bodyPost_ret (by simp [results, Tryz.results116, go_sem, zE]; try rfl) rfl ?_)
  exact ⟨rfl, hbE⟩

set_option maxRecDepth 100000 in
/-- the first time is none -/
theorem ends_2 (A R N D t0 t1 : Int) (w : World)
    (c1 : ∀ w, Calls Tryz.prog 133 #[.agg #[.int .i64 A, .int .i64 R, .int .i64 N, .int .i64 D]] w fun e w' => e = .returned (.bool true) ∧ Below w.heap.size w w')
    (c2 : ∀ w, Calls Tryz.prog 134 #[.int .i64 t0] w fun e w' => e = .returned (.bool false) ∧ w = w')
    :
    Calls Tryz.prog 116 #[.agg #[.int .i64 A, .int .i64 R, .int .i64 N, .int .i64 D], .int .i64 t0, .int .i64 t1] w fun x w' => x = .returned (.tuple #[.agg #[.int .i64 0, .int .i64 0], .int .i64 2]) ∧ Below w.heap.size w w' := by
  go_enter Tryz.func116, Tryz.ntmps116
  go_wp2_with fail
  refine (c1 _).mono ?_
  rintro x w1 ⟨rfl, hb1⟩
  have a1 := kp hb1 (na2 w (.cells #[.int .i64 A, .int .i64 R, .int .i64 N, .int .i64 D] 24) (.cells #[.int .i64 0, .int .i64 0] 156) #[.int .i64 A, .int .i64 R, .int .i64 N, .int .i64 D] 179)
  have r1 := kp hb1 (ka (na1 w (.cells #[.int .i64 A, .int .i64 R, .int .i64 N, .int .i64 D] 24) #[.int .i64 0, .int .i64 0] 156) (.cells #[.int .i64 A, .int .i64 R, .int .i64 N, .int .i64 D] 179))
  have hB1 := bB (bA (bA (bA (b0 w) (.cells #[.int .i64 A, .int .i64 R, .int .i64 N, .int .i64 D] 24)) (.cells #[.int .i64 0, .int .i64 0] 156)) (.cells #[.int .i64 A, .int .i64 R, .int .i64 N, .int .i64 D] 179)) hb1
  obtain ⟨z1, z2, z3⟩ := rcell a1
  obtain ⟨y1, y2, y3⟩ := rcell r1
  go_wp2_with fail
  refine (c2 _).mono ?_
  rintro x wc2 ⟨rfl, rfl⟩
  go_wp2_with fail
  (rw [row2 r1]; generalize hT : setRow _ _ _ = wE; obtain ⟨hbE, hgE⟩ := ret_row hB1 (by omega) r1 hT; have zE := (rcell hgE).1; clear hT; refine bodyPost_ret (by simp [results, Tryz.results116, go_sem, zE]; try rfl) rfl ?_)
  exact ⟨rfl, hbE⟩

set_option maxRecDepth 100000 in
/-- the second time is none -/
theorem ends_3 (A R N D t0 t1 : Int) (w : World)
    (c1 : ∀ w, Calls Tryz.prog 133 #[.agg #[.int .i64 A, .int .i64 R, .int .i64 N, .int .i64 D]] w fun e w' => e = .returned (.bool true) ∧ Below w.heap.size w w')
    (c2 : ∀ w, Calls Tryz.prog 134 #[.int .i64 t0] w fun e w' => e = .returned (.bool true) ∧ w = w')
    (c3 : ∀ w, Calls Tryz.prog 134 #[.int .i64 t1] w fun e w' => e = .returned (.bool false) ∧ w = w')
    :
    Calls Tryz.prog 116 #[.agg #[.int .i64 A, .int .i64 R, .int .i64 N, .int .i64 D], .int .i64 t0, .int .i64 t1] w fun x w' => x = .returned (.tuple #[.agg #[.int .i64 0, .int .i64 0], .int .i64 2]) ∧ Below w.heap.size w w' := by
  go_enter Tryz.func116, Tryz.ntmps116
  go_wp2_with fail
  refine (c1 _).mono ?_
  rintro x w1 ⟨rfl, hb1⟩
  have a1 := kp hb1 (na2 w (.cells #[.int .i64 A, .int .i64 R, .int .i64 N, .int .i64 D] 24) (.cells #[.int .i64 0, .int .i64 0] 156) #[.int .i64 A, .int .i64 R, .int .i64 N, .int .i64 D] 179)
  have r1 := kp hb1 (ka (na1 w (.cells #[.int .i64 A, .int .i64 R, .int .i64 N, .int .i64 D] 24) #[.int .i64 0, .int .i64 0] 156) (.cells #[.int .i64 A, .int .i64 R, .int .i64 N, .int .i64 D] 179))
  have hB1 := bB (bA (bA (bA (b0 w) (.cells #[.int .i64 A, .int .i64 R, .int .i64 N, .int .i64 D] 24)) (.cells #[.int .i64 0, .int .i64 0] 156)) (.cells #[.int .i64 A, .int .i64 R, .int .i64 N, .int .i64 D] 179)) hb1
  obtain ⟨z1, z2, z3⟩ := rcell a1
  obtain ⟨y1, y2, y3⟩ := rcell r1
  go_wp2_with fail
  refine (c2 _).mono ?_
  rintro x wc2 ⟨rfl, rfl⟩
  go_wp2_with fail
  refine (c3 _).mono ?_
  rintro x wc3 ⟨rfl, rfl⟩
  go_wp2_with fail
  (rw [row2 r1]; generalize hT : setRow _ _ _ = wE; obtain ⟨hbE, hgE⟩ := ret_row hB1 (by omega) r1 hT; have zE := (rcell hgE).1; clear hT; refine bodyPost_ret (by simp [results, Tryz.results116, go_sem, zE]; try rfl) rfl ?_)
  exact ⟨rfl, hbE⟩

set_option maxRecDepth 100000 in
/-- the second time is the earlier one -/
theorem ends_4 (A R N D t0 t1 : Int) (w : World) (ht : t1 < t0)
    (c1 : ∀ w, Calls Tryz.prog 133 #[.agg #[.int .i64 A, .int .i64 R, .int .i64 N, .int .i64 D]] w fun e w' => e = .returned (.bool true) ∧ Below w.heap.size w w')
    (c2 : ∀ w, Calls Tryz.prog 134 #[.int .i64 t0] w fun e w' => e = .returned (.bool true) ∧ w = w')
    (c3 : ∀ w, Calls Tryz.prog 134 #[.int .i64 t1] w fun e w' => e = .returned (.bool true) ∧ w = w')
    :
    Calls Tryz.prog 116 #[.agg #[.int .i64 A, .int .i64 R, .int .i64 N, .int .i64 D], .int .i64 t0, .int .i64 t1] w fun x w' => x = .returned (.tuple #[.agg #[.int .i64 0, .int .i64 0], .int .i64 2]) ∧ Below w.heap.size w w' := by
  go_enter Tryz.func116, Tryz.ntmps116
  go_wp2_with fail
  refine (c1 _).mono ?_
  rintro x w1 ⟨rfl, hb1⟩
  have a1 := kp hb1 (na2 w (.cells #[.int .i64 A, .int .i64 R, .int .i64 N, .int .i64 D] 24) (.cells #[.int .i64 0, .int .i64 0] 156) #[.int .i64 A, .int .i64 R, .int .i64 N, .int .i64 D] 179)
  have r1 := kp hb1 (ka (na1 w (.cells #[.int .i64 A, .int .i64 R, .int .i64 N, .int .i64 D] 24) #[.int .i64 0, .int .i64 0] 156) (.cells #[.int .i64 A, .int .i64 R, .int .i64 N, .int .i64 D] 179))
  have hB1 := bB (bA (bA (bA (b0 w) (.cells #[.int .i64 A, .int .i64 R, .int .i64 N, .int .i64 D] 24)) (.cells #[.int .i64 0, .int .i64 0] 156)) (.cells #[.int .i64 A, .int .i64 R, .int .i64 N, .int .i64 D] 179)) hb1
  obtain ⟨z1, z2, z3⟩ := rcell a1
  obtain ⟨y1, y2, y3⟩ := rcell r1
  go_wp2_with fail
  refine (c2 _).mono ?_
  rintro x wc2 ⟨rfl, rfl⟩
  go_wp2_with fail
  refine (c3 _).mono ?_
  rintro x wc3 ⟨rfl, rfl⟩
  go_wp2_with fail
  (rw [row2 r1]; generalize hT : setRow _ _ _ = wE; obtain ⟨hbE, hgE⟩ := ret_row hB1 (by omega) r1 hT; have zE := (rcell hgE).1; clear hT; refine bodyPost_ret (by simp [results, Tryz.results116, go_sem, zE]; try rfl) rfl ?_)
  exact ⟨rfl, hbE⟩

/-- what line.Ends tells -/
def enE (A R N D t0 t1 : Int) : Int := if isB A R N D = true then (if tmB t0 = true ∧ tmB t1 = true ∧ t0 ≤ t1 then (if bkB (lnQ A R N D t0) = true ∧ bkB (lnQ A R N D t1) = true then 0 else 5) else 2) else 150

theorem line_Ends_yes (A R N D t0 t1 : Int) (h1 : isB A R N D = true) (h2 : tmB t0 = true) (h3 : tmB t1 = true) (ht : t0 ≤ t1) (h4 : bkB (lnQ A R N D t0) = true) (h5 : bkB (lnQ A R N D t1) = true) (w : World) :
    Calls Tryz.prog 116 #[.agg #[.int .i64 A, .int .i64 R, .int .i64 N, .int .i64 D], .int .i64 t0, .int .i64 t1] w fun x w' => x = .returned (.tuple #[.agg #[.int .i64 (min (lnQ A R N D t0) (lnQ A R N D t1)), .int .i64 (max (lnQ A R N D t0) (lnQ A R N D t1))], .int .i64 0]) ∧ Below w.heap.size w w' := by
  have c1 := line_is A R N D
  have c2 := line_timeIs t0
  have c3 := line_timeIs t1
  have v0 := line_value A R N D t0 h1 h2
  have v1 := line_value A R N D t1 h1 h3
  rw [h1] at c1
  rw [h2] at c2
  rw [h3] at c3
  rw [if_pos h4, if_pos h4] at v0
  rw [if_pos h5, if_pos h5] at v1
  exact ends_5 A R N D t0 t1 _ _ 0 ht w c1 c2 c3 (fun k w hk => both_ok A R N D t0 t1 _ _ k w hk v0 v1)

theorem line_Ends_no (A R N D t0 t1 : Int) (h : ¬ enE A R N D t0 t1 = 0) (w : World) :
    Calls Tryz.prog 116 #[.agg #[.int .i64 A, .int .i64 R, .int .i64 N, .int .i64 D], .int .i64 t0, .int .i64 t1] w fun x w' => x = .returned (.tuple #[.agg #[.int .i64 0, .int .i64 0], .int .i64 (enE A R N D t0 t1)]) ∧ Below w.heap.size w w' := by
  have c1 := line_is A R N D
  have c2 := line_timeIs t0
  have c3 := line_timeIs t1
  by_cases h1 : isB A R N D = true
  · rw [h1] at c1
    by_cases ht : tmB t0 = true ∧ tmB t1 = true ∧ t0 ≤ t1
    · obtain ⟨h2, h3, h4⟩ := ht
      rw [h2] at c2
      rw [h3] at c3
      have v0 := line_value A R N D t0 h1 h2
      have v1 := line_value A R N D t1 h1 h3
      have e5 : enE A R N D t0 t1 = 5 := by
        unfold enE at h ⊢
        rw [if_pos h1, if_pos ⟨h2, h3, h4⟩] at h ⊢
        split at h
        · exact absurd rfl h
        · next hn => rw [if_neg hn]
      rw [e5]
      have hn : ¬ (bkB (lnQ A R N D t0) = true ∧ bkB (lnQ A R N D t1) = true) := fun hb => by
        unfold enE at e5
        rw [if_pos h1, if_pos ⟨h2, h3, h4⟩, if_pos hb] at e5
        omega
      by_cases hb : bkB (lnQ A R N D t0) = true
      · have hb' : ¬ bkB (lnQ A R N D t1) = true := fun h' => hn ⟨hb, h'⟩
        rw [if_pos hb, if_pos hb] at v0
        rw [if_neg hb', if_neg hb'] at v1
        exact ends_5 A R N D t0 t1 0 0 5 h4 w c1 c2 c3 (fun k w hk => both_1 A R N D t0 t1 _ _ _ k w hk (by omega) v0 v1)
      · rw [if_neg hb, if_neg hb] at v0
        exact ends_5 A R N D t0 t1 0 0 5 h4 w c1 c2 c3 (fun k w hk => both_0 A R N D t0 t1 _ _ k w hk (by omega) v0)
    · have e2 : enE A R N D t0 t1 = 2 := by unfold enE; rw [if_pos h1, if_neg ht]
      rw [e2]
      by_cases h2 : tmB t0 = true
      · rw [h2] at c2
        by_cases h3 : tmB t1 = true
        · rw [h3] at c3
          have h4 : t1 < t0 := by
            have : ¬ t0 ≤ t1 := fun h4 => ht ⟨h2, h3, h4⟩
            omega
          exact ends_4 A R N D t0 t1 w h4 c1 c2 c3
        · rw [show tmB t1 = false by simpa using h3] at c3
          exact ends_3 A R N D t0 t1 w c1 c2 c3
      · rw [show tmB t0 = false by simpa using h2] at c2
        exact ends_2 A R N D t0 t1 w c1 c2
  · have e1 : enE A R N D t0 t1 = 150 := by unfold enE; rw [if_neg h1]
    rw [e1]
    rw [show isB A R N D = false by simpa using h1] at c1
    exact ends_1 A R N D t0 t1 w c1
end Go.Proofs.YtmpfbkeamihjbaaGreat
