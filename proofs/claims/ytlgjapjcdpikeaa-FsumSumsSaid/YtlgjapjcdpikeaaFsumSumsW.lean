/- FsumSums (yearbooklaw06): its walk. -/
import Derived.Test.YtlgjapjcdpikeaaRef15
import Derived.Test.YtlgjapjcdpikeaaRef16
import Derived.Test.YtlgjapjcdpikeaaFsum7
import Derived.Test.YtlgjapjcdpikeaaFrame
set_option linter.unusedSimpArgs false
set_option linter.unusedVariables false
namespace Go.Proofs.Ytlgjapjcdpikeaa
open Go.RowKit

set_option maxRecDepth 100000 in
set_option maxHeartbeats 2000000 in
theorem sums_no (n a b m : Int) (ra : Rng a) (rb : Rng b) (h : ¬ RowOk n a b m) (w : World) :
    Calls Try.prog 11 #[.agg #[.int .i64 n, .int .i64 (hi a), .int .u64 (lo a), .int .i64 (hi b), .int .u64 (lo b), .int .i64 m]] w fun e w' => e = .returned (.bool true) ∧ Below w.heap.size w w' := by
  have c1 := fsum_Sum_no n a b m ra rb h
  have c2 := fsum_Rests_no n a b m ra rb h
  have c3 := ref6_Right_no n a b m ra rb h
  clear h
  go_enter Try.func11, Try.ntmps11
  go_wp2_with fail
  refine (wakes6 _).mono ?_
  rintro e w1 ⟨rfl, hb1⟩
  have f_x1 := kp hb1 (na w #[.int .i64 n, .int .i64 (hi a), .int .u64 (lo a), .int .i64 (hi b), .int .u64 (lo b), .int .i64 m] 67)
  have hB1 := bB (bA (b0 w) (.cells #[.int .i64 n, .int .i64 (hi a), .int .u64 (lo a), .int .i64 (hi b), .int .u64 (lo b), .int .i64 m] 67)) hb1
  obtain ⟨zx_a, zx_b, lx1⟩ := rcell f_x1
  go_wp2_with fail
  refine (c1 _).mono ?_
  rintro e w2 ⟨rfl, hb2⟩
  have f_x2 := kp hb2 (f_x1)
  have hB2 := bB hB1 hb2
  clear zx_a zx_b
  obtain ⟨zx_a, zx_b, lx2⟩ := rcell f_x2
  go_wp2_with fail
  refine (c2 _).mono ?_
  rintro e w3 ⟨rfl, hb3⟩
  have f_x3 := kp hb3 (ka (f_x2) (.cells #[.int .i64 0, .int .u64 0] 46))
  have f_s3 := kp hb3 (na w2 #[.int .i64 0, .int .u64 0] 46)
  have hB3 := bB (bA hB2 (.cells #[.int .i64 0, .int .u64 0] 46)) hb3
  clear zx_a zx_b
  obtain ⟨zx_a, zx_b, lx3⟩ := rcell f_x3
  obtain ⟨zs_a, zs_b, ls3⟩ := rcell f_s3
  go_wp2_with fail
  refine (c3 _).mono ?_
  rintro e w4 ⟨rfl, hb4⟩
  have f_x4 := kp hb4 (f_x3)
  have f_s4 := kp hb4 (f_s3)
  have hB4 := bB hB3 hb4
  clear zs_a zs_b zx_a zx_b
  obtain ⟨zx_a, zx_b, lx4⟩ := rcell f_x4
  obtain ⟨zs_a, zs_b, ls4⟩ := rcell f_s4
  go_wp2
  go_ret
  exact ⟨by simp, hB4⟩

set_option maxRecDepth 100000 in
set_option maxHeartbeats 2000000 in
theorem sums_yes (n a b m : Int) (ra : Rng a) (rb : Rng b) (h : RowOk n a b m) (w : World) :
    Calls Try.prog 11 #[.agg #[.int .i64 n, .int .i64 (hi a), .int .u64 (lo a), .int .i64 (hi b), .int .u64 (lo b), .int .i64 m]] w fun e w' => e = .returned (.bool true) ∧ Below w.heap.size w w' := by
  have c1 := fsum_Sum n a b m h
  have c2 := fsum_Rests n a b m h
  have c3 := ref6_Right_yes n a b m ra rb h
  have c4 := ref6_Sum n a b m h
  clear h
  go_enter Try.func11, Try.ntmps11
  go_wp2_with fail
  refine (wakes6 _).mono ?_
  rintro e w1 ⟨rfl, hb1⟩
  have f_x1 := kp hb1 (na w #[.int .i64 n, .int .i64 (hi a), .int .u64 (lo a), .int .i64 (hi b), .int .u64 (lo b), .int .i64 m] 67)
  have hB1 := bB (bA (b0 w) (.cells #[.int .i64 n, .int .i64 (hi a), .int .u64 (lo a), .int .i64 (hi b), .int .u64 (lo b), .int .i64 m] 67)) hb1
  obtain ⟨zx_a, zx_b, lx1⟩ := rcell f_x1
  go_wp2_with fail
  refine (c1 _).mono ?_
  rintro e w2 ⟨rfl, hb2⟩
  have f_x2 := kp hb2 (f_x1)
  have hB2 := bB hB1 hb2
  clear zx_a zx_b
  obtain ⟨zx_a, zx_b, lx2⟩ := rcell f_x2
  go_wp2_with fail
  refine (c2 _).mono ?_
  rintro e w3 ⟨rfl, hb3⟩
  have f_x3 := kp hb3 (ka (f_x2) (.cells #[.int .i64 (hi (fl n.toNat a b m)), .int .u64 (lo (fl n.toNat a b m))] 46))
  have f_s3 := kp hb3 (na w2 #[.int .i64 (hi (fl n.toNat a b m)), .int .u64 (lo (fl n.toNat a b m))] 46)
  have hB3 := bB (bA hB2 (.cells #[.int .i64 (hi (fl n.toNat a b m)), .int .u64 (lo (fl n.toNat a b m))] 46)) hb3
  clear zx_a zx_b
  obtain ⟨zx_a, zx_b, lx3⟩ := rcell f_x3
  obtain ⟨zs_a, zs_b, ls3⟩ := rcell f_s3
  go_wp2_with fail
  refine (c3 _).mono ?_
  rintro e w4 ⟨rfl, hb4⟩
  have f_x4 := kp hb4 (f_x3)
  have f_s4 := kp hb4 (f_s3)
  have hB4 := bB hB3 hb4
  clear zs_a zs_b zx_a zx_b
  obtain ⟨zx_a, zx_b, lx4⟩ := rcell f_x4
  obtain ⟨zs_a, zs_b, ls4⟩ := rcell f_s4
  go_wp2_with fail
  refine (c4 _).mono ?_
  rintro e w5 ⟨rfl, hb5⟩
  have f_x5 := kp hb5 (f_x4)
  have f_s5 := kp hb5 (f_s4)
  have hB5 := bB hB4 hb5
  clear zs_a zs_b zx_a zx_b
  obtain ⟨zx_a, zx_b, lx5⟩ := rcell f_x5
  obtain ⟨zs_a, zs_b, ls5⟩ := rcell f_s5
  go_wp2
  go_ret
  exact ⟨by simp, (bA hB5 (.cells #[.int .i64 (hi (fl n.toNat a b m)), .int .u64 (lo (fl n.toNat a b m))] 46))⟩

theorem fsum_sums (n ah al bh bl m : Int) (_wn : (Lit.int .i64 n).wf = true) (w1 : (Lit.int .i64 ah).wf = true) (w2 : (Lit.int .u64 al).wf = true) (w3 : (Lit.int .i64 bh).wf = true) (w4 : (Lit.int .u64 bl).wf = true) (_wm : (Lit.int .i64 m).wf = true) (w : World) :
    Calls Try.prog 11 #[.agg #[.int .i64 n, .int .i64 ah, .int .u64 al, .int .i64 bh, .int .u64 bl, .int .i64 m]] w fun e w' => e = .returned (.bool true) ∧ Below w.heap.size w w' := by
  obtain ⟨a, ra, rfl, rfl⟩ := wide_any ah al (wf_i64 w1).1 (wf_i64 w1).2 (wf_u64 w2).1 (wf_u64 w2).2
  obtain ⟨b, rb, rfl, rfl⟩ := wide_any bh bl (wf_i64 w3).1 (wf_i64 w3).2 (wf_u64 w4).1 (wf_u64 w4).2
  by_cases h : RowOk n a b m
  · exact sums_yes n a b m ra rb h w
  · exact sums_no n a b m ra rb h w
end Go.Proofs.Ytlgjapjcdpikeaa
