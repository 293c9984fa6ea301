/- The package line at this program, on: Of where it tells. -/
import Derived.Test.YtfdaabdibpcjeaaExc
set_option linter.unusedSimpArgs false
set_option linter.unusedVariables false
namespace Go.Proofs.Ytfdaabdibpcjeaa
open Go.RowKit

set_option maxRecDepth 100000 in
theorem line_Of_w (a N D N' D' : Int)
    (c1 : ∀ w, Calls Try.prog 48 #[.agg #[.int .i64 N, .int .i64 D]] w fun e w' => e = .returned (.bool true) ∧ Below w.heap.size w w')
    (c2 : ∀ w, Calls Try.prog 49 #[.int .i64 a] w fun e w' => e = .returned (.bool true) ∧ Below w.heap.size w w')
    (c3 : ∀ w, Calls Try.prog 50 #[.agg #[.int .i64 N, .int .i64 D]] w fun e w' => e = .returned (.agg #[.int .i64 N', .int .i64 D']) ∧ Below w.heap.size w w') (w : World) :
    Calls Try.prog 25 #[.int .i64 a, .agg #[.int .i64 N, .int .i64 D]] w fun e w' => e = .returned (.tuple #[.agg #[.int .i64 a, .int .i64 0, .int .i64 N', .int .i64 D'], .int .i64 0]) ∧ Below w.heap.size w w' := by
  go_enter Try.func25, Try.ntmps25
  go_wp2_with fail
  refine (c1 _).mono ?_
  rintro e w1 ⟨rfl, hb1⟩
  have f_s1 := kp hb1 (ka (na _ _ _) _)
  have f_o1 := kp hb1 (na1 _ _ _ _)
  have hB1 := bB (bA (bA (b0 w) _) _) hb1
  obtain ⟨zs_a, zs_b, ls1⟩ := rcell f_s1
  obtain ⟨zo_a, zo_b, lo1⟩ := rcell f_o1
  go_wp2_with fail
  refine (c2 _).mono ?_
  rintro e w2 ⟨rfl, hb2⟩
  have f_s2 := kp hb2 (f_s1)
  have f_o2 := kp hb2 (f_o1)
  have hB2 := bB hB1 hb2
  clear zo_a zo_b zs_a zs_b
  obtain ⟨zs_a, zs_b, ls2⟩ := rcell f_s2
  obtain ⟨zo_a, zo_b, lo2⟩ := rcell f_o2
  go_wp2_with fail
  refine (c3 _).mono ?_
  rintro e w3 ⟨rfl, hb3⟩
  have f_s3 := kp hb3 (f_s2)
  have f_o3 := kp hb3 (f_o2)
  have hB3 := bB hB2 hb3
  clear zo_a zo_b zs_a zs_b
  obtain ⟨zs_a, zs_b, ls3⟩ := rcell f_s3
  obtain ⟨zo_a, zo_b, lo3⟩ := rcell f_o3
  go_wp2_with fail
  rw [row2 f_s3]
  generalize hT4 : setRow _ _ _ = w4
  obtain ⟨hx4, f_s4⟩ := fin_x (b0 _) f_s3 hT4
  clear hT4
  have f_o4 := kx hx4 (f_o3) (by omega)
  have hB4 := bX hB3 hx4 (by omega)
  clear zo_a zo_b zs_a zs_b
  obtain ⟨zo_a, zo_b, lo4⟩ := rcell f_o4
  obtain ⟨zs_a, zs_b, ls4⟩ := rcell f_s4
  (rw [row4 (f_o4)]; generalize hT : setRow _ _ _ = wE; obtain ⟨hbE, hgE⟩ := ret_row hB4 (by omega) (f_o4) hT; have zE := (rcell hgE).1; clear hT; refine bodyPost_ret (by simp [results, Try.results25, go_sem, zE]; try rfl) rfl ?_)
  exact ⟨rfl, hbE⟩

theorem line_Of_yes (a N D : Int) (hb : bkB a = true) (hs : slB N D = true) (w : World) :
    Calls Try.prog 25 #[.int .i64 a, .agg #[.int .i64 N, .int .i64 D]] w fun e w' => e = .returned (.tuple #[.agg #[.int .i64 a, .int .i64 0, .int .i64 (lwN N D), .int .i64 (lwD N D)], .int .i64 0]) ∧ Below w.heap.size w w' := by
  obtain ⟨d1, d2, d3, d4⟩ := slB_spec hs
  have c1 := line_slopeIs N D
  have c2 := line_backB a
  rw [hs] at c1
  rw [hb] at c2
  exact line_Of_w a N D _ _ c1 c2 (line_lowest N D d1 (by omega) (by omega) (by omega)) w
end Go.Proofs.Ytfdaabdibpcjeaa
