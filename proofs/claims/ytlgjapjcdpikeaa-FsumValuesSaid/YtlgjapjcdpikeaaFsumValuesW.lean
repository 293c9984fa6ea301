/- FsumValues (yearbooklaw06): its walk, and the plain law. -/
import Derived.Test.YtlgjapjcdpikeaaFsum7
import Derived.Test.YtlgjapjcdpikeaaLineOf
import Derived.Test.YtlgjapjcdpikeaaLineLowestP
import Derived.LoopTactic
set_option linter.unusedSimpArgs false
set_option linter.unusedVariables false
namespace Go.Proofs.Ytlgjapjcdpikeaa
open Go.RowKit

theorem row3p {w : World} {g : Nat} {a0 a1 a2 : Value} {t : TypeId} {f : Nat × Nat} (h : w.heap[g]? = some (.cells #[a0, a1, a2] t f)) (v0 v1 v2 : Value) :
    ((w.setCell ⟨g, 2, none⟩ v2).setCell ⟨g, 0, none⟩ v0).setCell ⟨g, 1, none⟩ v1 = setRow w g #[v0, v1, v2] := by
  rw [setRow_of_setCell (cs' := #[a0, a1, v2]) h v2 rfl, setRow_of_setCell (cs' := #[v0, a1, v2]) (setRow_same h) v0 rfl, setRow_setRow, setRow_of_setCell (cs' := #[v0, v1, v2]) (setRow_same h) v1 rfl, setRow_setRow]

/-- what holds at a round's head -/
structure ValJ (gx gl ga gs : Nat) (f s n A R N D all : Int) (V : Nat → Int) (k : Nat) (w wr : World) : Prop where
  hx : wr.heap[gx]? = some (.cells #[.int .i64 f, .int .i64 s, .int .i64 n] 76 (0, 0))
  hl : wr.heap[gl]? = some (.cells #[.int .i64 A, .int .i64 R, .int .i64 N, .int .i64 D] 23 (0, 0))
  ha : wr.heap[ga]? = some (.cells #[.int .i64 (hi all), .int .u64 (lo all)] 46 (0, 0))
  hs : wr.heap[gs]? = some (.cells #[.int .i64 (hi (sm V k)), .int .u64 (lo (sm V k))] 46 (0, 0))
  hb : Below w.heap.size w wr

set_option maxRecDepth 100000 in
set_option maxHeartbeats 4000000 in
theorem values_w (a0 N0 D0 f0 s0 n0 A Nn md mf mn ms N D R n f s all : Int) (V va ve : Nat → Int)
    (hA : a0.tmod 2305844108725321728 = A) (hN : N0.tmod 4611688217450643456 = Nn) (hmd : (if D0 < 0 then 0 else D0) = md) (md0 : 0 ≤ md) (md1 : md < 9223372036854775808)
    (hmf : (if f0 < 0 then 0 else f0) = mf) (mf0 : 0 ≤ mf) (mf1 : mf < 9223372036854775808) (hmn : (if n0 < 0 then 0 else n0) = mn) (mn0 : 0 ≤ mn) (mn1 : mn < 9223372036854775808)
    (hms : (if s0 < 0 then 0 else s0) = ms) (ms0 : 0 ≤ ms) (ms1 : ms < 9223372036854775808) (D1 : 1 ≤ D) (D2 : D ≤ 281474976710656) (hR : mf % D = R) (hn : mn % 257 = n) (hf : mf % 140737488355328 = f) (hs : ms % 549755813888 = s)
    (n1 : 0 ≤ n) (n2 : n ≤ 256) (f1 : 0 ≤ f) (f2 : f < 140737488355328) (s1 : 0 ≤ s) (s2 : s < 549755813888)
    (co : ∀ w : World, Calls Try.prog 30 #[.int .i64 A, .agg #[.int .i64 Nn, .int .i64 (md % 281474976710656 + 1)]] w fun e w' => e = .returned (.tuple #[.agg #[.int .i64 A, .int .i64 0, .int .i64 N, .int .i64 D], .int .i64 0]) ∧ Below w.heap.size w w')
    (c1 : ∀ w : World, Calls Try.prog 45 #[.agg #[.int .i64 A, .int .i64 R, .int .i64 N, .int .i64 D], .int .i64 f, .int .i64 s, .int .i64 n] w fun e w' => e = .returned (.tuple #[.agg #[.int .i64 (hi all), .int .u64 (lo all)], .int .i64 0]) ∧ Below w.heap.size w w')
    (c2 : ∀ k : Nat, (k : Int) < n → ∀ w : World, Calls Try.prog 45 #[.agg #[.int .i64 A, .int .i64 R, .int .i64 N, .int .i64 D], .int .i64 (f + k * s), .int .i64 0, .int .i64 1] w fun e w' => e = .returned (.tuple #[.agg #[.int .i64 (hi (V k)), .int .u64 (lo (V k))], .int .i64 0]) ∧ Below w.heap.size w w')
    (c3 : ∀ k : Nat, (k : Int) < n → ∀ w : World, Calls Try.prog 20 #[.agg #[.int .i64 A, .int .i64 R, .int .i64 N, .int .i64 D], .int .i64 (f + k * s)] w fun e w' => e = .returned (.tuple #[.int .i64 (va k), .int .i64 (ve k)]) ∧ Below w.heap.size w w')
    (c4 : ∀ k : Nat, (k : Int) < n → ve k = 0 → ∀ w : World, Calls Try.prog 50 #[.int .i64 (va k)] w fun e w' => e = .returned (.agg #[.int .i64 (hi (V k)), .int .u64 (lo (V k))]) ∧ Below w.heap.size w w')
    (c5 : ∀ k : Nat, (k : Int) < n → ∀ w : World, Calls Try.prog 49 #[.agg #[.int .i64 (hi (sm V k)), .int .u64 (lo (sm V k))], .agg #[.int .i64 (hi (V k)), .int .u64 (lo (V k))], .int .i64 1] w fun e w' => e = .returned (.agg #[.int .i64 (hi (sm V (k + 1))), .int .u64 (lo (sm V (k + 1)))]) ∧ Below w.heap.size w w')
    (hall : sm V n.toNat = all) (w : World) :
    Calls Try.prog 18 #[.int .i64 a0, .agg #[.int .i64 N0, .int .i64 D0], .agg #[.int .i64 f0, .int .i64 s0, .int .i64 n0]] w fun e w' => e = .returned (.bool true) ∧ Below w.heap.size w w' := by
  have b1 : 0 ≤ md % 281474976710656 ∧ md % 281474976710656 < 281474976710656 := by omega
  obtain ⟨b1, b2⟩ := b1
  have nz : ¬ D = 0 := by omega
  have HALL := hide hall
  have C2 := hide c2
  have C3 := hide c3
  have C4 := hide c4
  have C5 := hide c5
  clear hall c2 c3 c4 c5
  go_enter Try.func18, Try.ntmps18
  go_wp2_with fail
  refine (wakes6 _).mono ?_
  rintro e w1 ⟨rfl, hb1⟩
  have f_s1 := kp hb1 (ka (na _ _ _) _)
  have f_x1 := kp hb1 (na1 _ _ _ _)
  have hB1 := bB (bA (bA (b0 w) _) _) hb1
  obtain ⟨zs_a, zs_b, ls1⟩ := rcell f_s1
  obtain ⟨zx_a, zx_b, lx1⟩ := rcell f_x1
  go_wp2_with fail
  rw [row2 f_s1]
  generalize hT2 : setRow _ _ _ = w2
  obtain ⟨hx2, f_s2⟩ := fin_x (b0 _) f_s1 hT2
  clear hT2
  have f_x2 := kx hx2 (f_x1) (by omega)
  have hB2 := bX hB1 hx2 (by omega)
  clear zs_a zs_b zx_a zx_b
  obtain ⟨zx_a, zx_b, lx2⟩ := rcell f_x2
  obtain ⟨zs_a, zs_b, ls2⟩ := rcell f_s2
  go_wp2_with fail
  refine (co _).mono ?_
  rintro e w3 ⟨rfl, hb3⟩
  have f_x3 := kp hb3 (f_x2)
  have f_s3 := kp hb3 (f_s2)
  have hB3 := bB hB2 hb3
  clear zs_a zs_b zx_a zx_b
  obtain ⟨zx_a, zx_b, lx3⟩ := rcell f_x3
  obtain ⟨zs_a, zs_b, ls3⟩ := rcell f_s3
  go_wp2_with fail
  rw [row3p f_x3]
  generalize hT4 : setRow _ _ _ = w4
  have hz4 : w4.heap.size = w3.heap.size := by rw [← hT4]; exact setRow_size _ _ _
  obtain ⟨hx4, f_x4⟩ := fin_x (b0 _) f_x3 hT4
  clear hT4
  have f_s4 := kx hx4 (f_s3) (by omega)
  have hB4 := bX hB3 hx4 (by omega)
  clear zs_a zs_b zx_a zx_b
  obtain ⟨zs_a, zs_b, ls4⟩ := rcell f_s4
  obtain ⟨zx_a, zx_b, lx4⟩ := rcell f_x4
  go_wp2_with fail
  refine (c1 _).mono ?_
  rintro e w5 ⟨rfl, hb5⟩
  have f_s5 := kp hb5 (ka (f_s4) (.cells #[.int .i64 A, .int .i64 R, .int .i64 N, .int .i64 D] 23))
  have f_x5 := kp hb5 (ka (f_x4) (.cells #[.int .i64 A, .int .i64 R, .int .i64 N, .int .i64 D] 23))
  have f_l5 := kp hb5 ((hz4 ▸ na w4 #[.int .i64 A, .int .i64 R, .int .i64 N, .int .i64 D] 23))
  have hB5 := bB (bA hB4 (.cells #[.int .i64 A, .int .i64 R, .int .i64 N, .int .i64 D] 23)) hb5
  clear zs_a zs_b zx_a zx_b
  obtain ⟨zs_a, zs_b, ls5⟩ := rcell f_s5
  obtain ⟨zx_a, zx_b, lx5⟩ := rcell f_x5
  obtain ⟨zl_a, zl_b, ll5⟩ := rcell f_l5
  clear hA hN hmd hmf hmn hms hR hn hf hs
  go_wp2_with fail
  go_loopw [74] (fun vi wr => ∃ k : Nat, vi = .int .i64 k ∧ (k : Int) ≤ n ∧ ValJ (w.heap.size + 1) w3.heap.size w5.heap.size (w5.heap.size + 1) f s n A R N D all V k w wr) (fun vi _ => (n - intOf vi).toNat)
  case atStart => exact ⟨0, rfl, n1, (ka (ka (f_x5) (.cells #[.int .i64 (hi all), .int .u64 (lo all)] 46)) (.cells #[.int .i64 0, .int .u64 0] 46)), (ka (ka (f_l5) (.cells #[.int .i64 (hi all), .int .u64 (lo all)] 46)) (.cells #[.int .i64 0, .int .u64 0] 46)), (ka (na w5 #[.int .i64 (hi all), .int .u64 (lo all)] 46) (.cells #[.int .i64 0, .int .u64 0] 46)), (na1 w5 (.cells #[.int .i64 (hi all), .int .u64 (lo all)] 46) #[.int .i64 0, .int .u64 0] 46), (bA (bA hB5 (.cells #[.int .i64 (hi all), .int .u64 (lo all)] 46)) (.cells #[.int .i64 0, .int .u64 0] 46))⟩
  case round =>
    obtain ⟨k, rfl, hk, hJ⟩ := hrel
    obtain ⟨jx, jl, ja, js', hb0⟩ := hJ
    by_cases hlt : (k : Int) < n
    · have d2 := C2.out k hlt
      have d3 := C3.out k hlt
      have d5 := C5.out k hlt
      have y0 : 0 ≤ (k : Int) * s := Int.mul_nonneg (by omega) s1
      have y1 : (k : Int) * s ≤ 256 * 549755813888 := Int.mul_le_mul (by omega) (by omega) s1 (by omega)
      by_cases he : ve k = 0
      · have d4 := C4.out k hlt he
        rw [he] at d3
        generalize va k = va' at *
        obtain ⟨zx_a, zx_b, lx6⟩ := rcell jx
        obtain ⟨zl_a, zl_b, ll7⟩ := rcell jl
        obtain ⟨za_a, za_b, la8⟩ := rcell ja
        obtain ⟨zs_a, zs_b, ls9⟩ := rcell js'
        go_wp2_with fail
        refine (d2 _).mono ?_
        rintro e w10 ⟨rfl, hb10⟩
        have f_x10 := kp hb10 (jx)
        have f_l10 := kp hb10 (jl)
        have f_a10 := kp hb10 (ja)
        have f_s10 := kp hb10 (js')
        have hB10 := bB hb0 hb10
        clear za_a za_b zl_a zl_b zs_a zs_b zx_a zx_b
        obtain ⟨zx_a, zx_b, lx10⟩ := rcell f_x10
        obtain ⟨zl_a, zl_b, ll10⟩ := rcell f_l10
        obtain ⟨za_a, za_b, la10⟩ := rcell f_a10
        obtain ⟨zs_a, zs_b, ls10⟩ := rcell f_s10
        go_wp2_with fail
        refine (d3 _).mono ?_
        rintro e w11 ⟨rfl, hb11⟩
        have f_x11 := kp hb11 (ka (f_x10) (.cells #[.int .i64 (hi (V k)), .int .u64 (lo (V k))] 46))
        have f_l11 := kp hb11 (ka (f_l10) (.cells #[.int .i64 (hi (V k)), .int .u64 (lo (V k))] 46))
        have f_a11 := kp hb11 (ka (f_a10) (.cells #[.int .i64 (hi (V k)), .int .u64 (lo (V k))] 46))
        have f_s11 := kp hb11 (ka (f_s10) (.cells #[.int .i64 (hi (V k)), .int .u64 (lo (V k))] 46))
        have f_one11 := kp hb11 (na w10 #[.int .i64 (hi (V k)), .int .u64 (lo (V k))] 46)
        have hB11 := bB (bA hB10 (.cells #[.int .i64 (hi (V k)), .int .u64 (lo (V k))] 46)) hb11
        clear za_a za_b zl_a zl_b zs_a zs_b zx_a zx_b
        obtain ⟨zx_a, zx_b, lx11⟩ := rcell f_x11
        obtain ⟨zl_a, zl_b, ll11⟩ := rcell f_l11
        obtain ⟨za_a, za_b, la11⟩ := rcell f_a11
        obtain ⟨zs_a, zs_b, ls11⟩ := rcell f_s11
        obtain ⟨zone_a, zone_b, lone11⟩ := rcell f_one11
        go_wp2_with fail
        refine Abs.wp_region_abs (Abs.cls0 _) [0, 1, 2, 3, 4, 5, 6, 7, 8, 9, 10, 11] (by kernel_rfl) (by kernel_rfl) (Below.refl _ _).drew ?_
        repeat (first | (refine Abs.step_pure rfl rfl (fun K hK => ?_); go_simp; (try go_bits); (first | refine hK _ _ ?_ | (simp only [↓IntWalk.iteOmega]; go_simp; (try go_bits); refine hK _ _ ?_)); clear hK K) | (refine Abs.step_load (v := ?_) rfl rfl (by kernel_rfl) rfl (fun w0 hI => ?_) (fun K hK => ?_); rotate_left; (· have z0 := (rcell (kp hI (f_one11))).1; go_simp; rfl); (simp only [Act.put, List.setIfInBounds_toArray, List.set_cons_zero, List.set_cons_succ]; refine hK _ _ ?_; clear hK K)) | (refine Abs.step_skip rfl rfl (fun K hK => ?_); (simp only [Act.put, List.setIfInBounds_toArray, List.set_cons_zero, List.set_cons_succ]; refine hK _ _ ?_; clear hK K)))
        (refine Abs.step_call_val (f := ?_) (args := ?_) (v := ?_) rfl rfl rfl rfl (fun w0 => ?_) (fun w0 hI => ?_) (fun K hK => ?_); rotate_left 3; (· go_simp; (constructor <;> rfl)); (· exact d4 _); (simp only [Act.put, List.setIfInBounds_toArray, List.set_cons_zero, List.set_cons_succ]; refine hK _ _ ?_; clear hK K))
        repeat (first | (refine Abs.step_pure rfl rfl (fun K hK => ?_); go_simp; (try go_bits); (first | refine hK _ _ ?_ | (simp only [↓IntWalk.iteOmega]; go_simp; (try go_bits); refine hK _ _ ?_)); clear hK K) | (refine Abs.step_load (v := ?_) rfl rfl (by kernel_rfl) rfl (fun w0 hI => ?_) (fun K hK => ?_); rotate_left; (· have z0 := (rcell (kp hI (f_one11))).1; go_simp; rfl); (simp only [Act.put, List.setIfInBounds_toArray, List.set_cons_zero, List.set_cons_succ]; refine hK _ _ ?_; clear hK K)) | (refine Abs.step_skip rfl rfl (fun K hK => ?_); (simp only [Act.put, List.setIfInBounds_toArray, List.set_cons_zero, List.set_cons_succ]; refine hK _ _ ?_; clear hK K)))
        intro w13 hb13 hx0 hx1 hx2
        clear hx0 hx1 hx2
        simp only [Abs.T_setF, Abs.T_addA, Abs.T_push, Abs.T_start]
        have f_x13 := kp hb13 (f_x11)
        have f_l13 := kp hb13 (f_l11)
        have f_a13 := kp hb13 (f_a11)
        have f_s13 := kp hb13 (f_s11)
        have f_one13 := kp hb13 (f_one11)
        have hB13 := bB hB11 hb13
        clear za_a za_b zl_a zl_b zone_a zone_b zs_a zs_b zx_a zx_b
        obtain ⟨zx_a, zx_b, lx13⟩ := rcell f_x13
        obtain ⟨zl_a, zl_b, ll13⟩ := rcell f_l13
        obtain ⟨za_a, za_b, la13⟩ := rcell f_a13
        obtain ⟨zs_a, zs_b, ls13⟩ := rcell f_s13
        obtain ⟨zone_a, zone_b, lone13⟩ := rcell f_one13
        go_wp2_with fail
        refine (d5 _).mono ?_
        rintro e w14 ⟨rfl, hb14⟩
        have f_x14 := kp hb14 (f_x13)
        have f_l14 := kp hb14 (f_l13)
        have f_a14 := kp hb14 (f_a13)
        have f_s14 := kp hb14 (f_s13)
        have f_one14 := kp hb14 (f_one13)
        have hB14 := bB hB13 hb14
        clear za_a za_b zl_a zl_b zone_a zone_b zs_a zs_b zx_a zx_b
        obtain ⟨zx_a, zx_b, lx14⟩ := rcell f_x14
        obtain ⟨zl_a, zl_b, ll14⟩ := rcell f_l14
        obtain ⟨za_a, za_b, la14⟩ := rcell f_a14
        obtain ⟨zs_a, zs_b, ls14⟩ := rcell f_s14
        obtain ⟨zone_a, zone_b, lone14⟩ := rcell f_one14
        go_wp2_with fail
        rw [row2 f_s14]
        generalize hT15 : setRow _ _ _ = w15
        obtain ⟨hx15, f_s15⟩ := fin_x (b0 _) f_s14 hT15
        clear hT15
        have f_x15 := kx hx15 (f_x14) (by omega)
        have f_l15 := kx hx15 (f_l14) (by omega)
        have f_a15 := kx hx15 (f_a14) (by omega)
        have f_one15 := kx hx15 (f_one14) (by omega)
        have hB15 := bX hB14 hx15 (by omega)
        clear za_a za_b zl_a zl_b zone_a zone_b zs_a zs_b zx_a zx_b
        obtain ⟨zx_a, zx_b, lx15⟩ := rcell f_x15
        obtain ⟨zl_a, zl_b, ll15⟩ := rcell f_l15
        obtain ⟨za_a, za_b, la15⟩ := rcell f_a15
        obtain ⟨zone_a, zone_b, lone15⟩ := rcell f_one15
        obtain ⟨zs_a, zs_b, ls15⟩ := rcell f_s15
        go_roundw
        case rel => exact ⟨k + 1, by go_num, by omega, (f_x15), (f_l15), (f_a15), (f_s15), hB15⟩
        case measure => simp [intOf]; omega
      · generalize va k = va' at *
        generalize ve k = ve' at *
        have he1 : (ve' == 0) = false := by simp; exact he
        obtain ⟨zx_a, zx_b, lx16⟩ := rcell jx
        obtain ⟨zl_a, zl_b, ll17⟩ := rcell jl
        obtain ⟨za_a, za_b, la18⟩ := rcell ja
        obtain ⟨zs_a, zs_b, ls19⟩ := rcell js'
        go_wp2_with fail
        refine (d2 _).mono ?_
        rintro e w20 ⟨rfl, hb20⟩
        have f_x20 := kp hb20 (jx)
        have f_l20 := kp hb20 (jl)
        have f_a20 := kp hb20 (ja)
        have f_s20 := kp hb20 (js')
        have hB20 := bB hb0 hb20
        clear za_a za_b zl_a zl_b zs_a zs_b zx_a zx_b
        obtain ⟨zx_a, zx_b, lx20⟩ := rcell f_x20
        obtain ⟨zl_a, zl_b, ll20⟩ := rcell f_l20
        obtain ⟨za_a, za_b, la20⟩ := rcell f_a20
        obtain ⟨zs_a, zs_b, ls20⟩ := rcell f_s20
        go_wp2_with fail
        refine (d3 _).mono ?_
        rintro e w21 ⟨rfl, hb21⟩
        have f_x21 := kp hb21 (ka (f_x20) (.cells #[.int .i64 (hi (V k)), .int .u64 (lo (V k))] 46))
        have f_l21 := kp hb21 (ka (f_l20) (.cells #[.int .i64 (hi (V k)), .int .u64 (lo (V k))] 46))
        have f_a21 := kp hb21 (ka (f_a20) (.cells #[.int .i64 (hi (V k)), .int .u64 (lo (V k))] 46))
        have f_s21 := kp hb21 (ka (f_s20) (.cells #[.int .i64 (hi (V k)), .int .u64 (lo (V k))] 46))
        have f_one21 := kp hb21 (na w20 #[.int .i64 (hi (V k)), .int .u64 (lo (V k))] 46)
        have hB21 := bB (bA hB20 (.cells #[.int .i64 (hi (V k)), .int .u64 (lo (V k))] 46)) hb21
        clear za_a za_b zl_a zl_b zs_a zs_b zx_a zx_b
        obtain ⟨zx_a, zx_b, lx21⟩ := rcell f_x21
        obtain ⟨zl_a, zl_b, ll21⟩ := rcell f_l21
        obtain ⟨za_a, za_b, la21⟩ := rcell f_a21
        obtain ⟨zs_a, zs_b, ls21⟩ := rcell f_s21
        obtain ⟨zone_a, zone_b, lone21⟩ := rcell f_one21
        go_wp2_with fail
        refine Abs.wp_region_abs (Abs.cls0 _) [0, 1, 2, 3, 4, 5, 6, 7, 8, 9, 10, 11] (by kernel_rfl) (by kernel_rfl) (Below.refl _ _).drew ?_
        repeat (first | (refine Abs.step_pure rfl rfl (fun K hK => ?_); go_simp; (try go_bits); (first | refine hK _ _ ?_ | (simp only [↓IntWalk.iteOmega]; go_simp; (try go_bits); refine hK _ _ ?_)); clear hK K) | (refine Abs.step_load (v := ?_) rfl rfl (by kernel_rfl) rfl (fun w0 hI => ?_) (fun K hK => ?_); rotate_left; (· have z0 := (rcell (kp hI (f_one21))).1; go_simp; rfl); (simp only [Act.put, List.setIfInBounds_toArray, List.set_cons_zero, List.set_cons_succ]; refine hK _ _ ?_; clear hK K)) | (refine Abs.step_skip rfl rfl (fun K hK => ?_); (simp only [Act.put, List.setIfInBounds_toArray, List.set_cons_zero, List.set_cons_succ]; refine hK _ _ ?_; clear hK K)))
        intro w23 hb23 hx0 hx1 hx2
        clear hx0 hx1 hx2
        simp only [Abs.T_setF, Abs.T_addA, Abs.T_push, Abs.T_start]
        have f_x23 := kp hb23 (f_x21)
        have f_l23 := kp hb23 (f_l21)
        have f_a23 := kp hb23 (f_a21)
        have f_s23 := kp hb23 (f_s21)
        have f_one23 := kp hb23 (f_one21)
        have hB23 := bB hB21 hb23
        clear za_a za_b zl_a zl_b zone_a zone_b zs_a zs_b zx_a zx_b
        obtain ⟨zx_a, zx_b, lx23⟩ := rcell f_x23
        obtain ⟨zl_a, zl_b, ll23⟩ := rcell f_l23
        obtain ⟨za_a, za_b, la23⟩ := rcell f_a23
        obtain ⟨zs_a, zs_b, ls23⟩ := rcell f_s23
        obtain ⟨zone_a, zone_b, lone23⟩ := rcell f_one23
        go_wp2_with fail
        refine (d5 _).mono ?_
        rintro e w24 ⟨rfl, hb24⟩
        have f_x24 := kp hb24 (f_x23)
        have f_l24 := kp hb24 (f_l23)
        have f_a24 := kp hb24 (f_a23)
        have f_s24 := kp hb24 (f_s23)
        have f_one24 := kp hb24 (f_one23)
        have hB24 := bB hB23 hb24
        clear za_a za_b zl_a zl_b zone_a zone_b zs_a zs_b zx_a zx_b
        obtain ⟨zx_a, zx_b, lx24⟩ := rcell f_x24
        obtain ⟨zl_a, zl_b, ll24⟩ := rcell f_l24
        obtain ⟨za_a, za_b, la24⟩ := rcell f_a24
        obtain ⟨zs_a, zs_b, ls24⟩ := rcell f_s24
        obtain ⟨zone_a, zone_b, lone24⟩ := rcell f_one24
        go_wp2_with fail
        rw [row2 f_s24]
        generalize hT25 : setRow _ _ _ = w25
        obtain ⟨hx25, f_s25⟩ := fin_x (b0 _) f_s24 hT25
        clear hT25
        have f_x25 := kx hx25 (f_x24) (by omega)
        have f_l25 := kx hx25 (f_l24) (by omega)
        have f_a25 := kx hx25 (f_a24) (by omega)
        have f_one25 := kx hx25 (f_one24) (by omega)
        have hB25 := bX hB24 hx25 (by omega)
        clear za_a za_b zl_a zl_b zone_a zone_b zs_a zs_b zx_a zx_b
        obtain ⟨zx_a, zx_b, lx25⟩ := rcell f_x25
        obtain ⟨zl_a, zl_b, ll25⟩ := rcell f_l25
        obtain ⟨za_a, za_b, la25⟩ := rcell f_a25
        obtain ⟨zone_a, zone_b, lone25⟩ := rcell f_one25
        obtain ⟨zs_a, zs_b, ls25⟩ := rcell f_s25
        go_roundw
        case rel => exact ⟨k + 1, by go_num, by omega, (f_x25), (f_l25), (f_a25), (f_s25), hB25⟩
        case measure => simp [intOf]; omega
    · have hkn : n.toNat = k := by omega
      have hsum := HALL.out
      rw [hkn] at hsum
      rw [hsum] at js'
      obtain ⟨zx_a, zx_b, lx26⟩ := rcell jx
      obtain ⟨zl_a, zl_b, ll27⟩ := rcell jl
      obtain ⟨za_a, za_b, la28⟩ := rcell ja
      obtain ⟨zs_a, zs_b, ls29⟩ := rcell js'
      clear hsum hkn
      go_wp2
      go_ret
      exact ⟨by simp, hb0⟩

theorem ite_nn (x : Int) (h : x < 9223372036854775808) : 0 ≤ (if x < 0 then 0 else x) ∧ (if x < 0 then 0 else x) < 9223372036854775808 := by split <;> omega

theorem fsum_values (a0 N0 D0 f0 s0 n0 : Int) (hD : D0 < 9223372036854775808) (hf : f0 < 9223372036854775808) (hs : s0 < 9223372036854775808) (hn : n0 < 9223372036854775808) (w : World) :
    Calls Try.prog 18 #[.int .i64 a0, .agg #[.int .i64 N0, .int .i64 D0], .agg #[.int .i64 f0, .int .i64 s0, .int .i64 n0]] w fun e w' => e = .returned (.bool true) ∧ Below w.heap.size w w' := by
  obtain ⟨md0, md1⟩ := ite_nn D0 hD
  obtain ⟨mf0, mf1⟩ := ite_nn f0 hf
  obtain ⟨ms0, ms1⟩ := ite_nn s0 hs
  obtain ⟨mn0, mn1⟩ := ite_nn n0 hn
  generalize hmd : (if D0 < 0 then 0 else D0) = md at *
  generalize hmf : (if f0 < 0 then 0 else f0) = mf at *
  generalize hms : (if s0 < 0 then 0 else s0) = ms at *
  generalize hmn : (if n0 < 0 then 0 else n0) = mn at *
  have t1 : ∀ x m : Int, 0 < m → -m < x.tmod m ∧ x.tmod m < m := by
    intro x m hm
    have k1 := Int.tmod_lt_of_pos x hm
    have k2 := Int.tmod_lt_of_pos (-x) hm
    rw [Int.neg_tmod] at k2
    omega
  have ta := t1 a0 2305844108725321728 (by decide)
  have tn := t1 N0 4611688217450643456 (by decide)
  generalize hA : a0.tmod 2305844108725321728 = A at *
  generalize hN : N0.tmod 4611688217450643456 = Nn at *
  have hb : bkB A = true := decide_eq_true ⟨by omega, by omega⟩
  have hsl : slB Nn (md % 281474976710656 + 1) = true := decide_eq_true ⟨by omega, by omega, by omega, by omega⟩
  have h1 : 1 ≤ md % 281474976710656 + 1 := by omega
  have hsl2 := low_sl hsl
  have hid := low_idem (N := Nn) h1
  have co := line_Of_yes A Nn (md % 281474976710656 + 1) hb hsl
  obtain ⟨D1, D2, N1, N2⟩ := slB_spec hsl2
  generalize lwN Nn (md % 281474976710656 + 1) = N at *
  generalize lwD Nn (md % 281474976710656 + 1) = D at *
  have R0 : 0 ≤ mf % D := Int.emod_nonneg _ (by omega)
  have R1 : mf % D < D := Int.emod_lt_of_pos _ (by omega)
  generalize hR : mf % D = R at *
  have hI : isB A R N D = true := decide_eq_true ⟨hb, hsl2, hid, R0, R1⟩
  obtain ⟨n, hn'⟩ : ∃ n, mn % 257 = n := ⟨_, rfl⟩
  obtain ⟨f, hf'⟩ : ∃ f, mf % 140737488355328 = f := ⟨_, rfl⟩
  obtain ⟨s, hs'⟩ : ∃ s, ms % 549755813888 = s := ⟨_, rfl⟩
  have n1 : 0 ≤ n ∧ n ≤ 256 := by omega
  have f1 : 0 ≤ f ∧ f < 140737488355328 := by omega
  have s1 : 0 ≤ s ∧ s < 549755813888 := by omega
  have at_bd : ∀ k : Nat, (k : Int) < n → 0 ≤ f + k * s ∧ f + k * s ≤ 281474976710656 := by
    intro k hk
    have y0 : 0 ≤ (k : Int) * s := Int.mul_nonneg (by omega) s1.1
    have y1 : (k : Int) * s ≤ 256 * 549755813888 := Int.mul_le_mul (by omega) (by omega) s1.1 (by omega)
    omega
  have x1 : (n - 1) * s ≤ 140737488355328 := by
    by_cases hz : n = 0
    · subst hz
      omega
    · have : (n - 1) * s ≤ 256 * 549755813888 := Int.mul_le_mul (by omega) (by omega) s1.1 (by omega)
      omega
  have c1 := fsum_Line A R N D f s n hI n1.1 n1.2 f1.1 (by omega) s1.1 (by omega) (fun _ => by omega)
  have V_bd : ∀ k : Nat, (k : Int) < n → -1400000000000000000000000000000000 ≤ lnQ A R N D (f + k * s) ∧ lnQ A R N D (f + k * s) ≤ 1400000000000000000000000000000000 := by
    intro k hk
    obtain ⟨t0, t2⟩ := at_bd k hk
    have k1 := mul_bd N (f + k * s) _ _ N1 N2 t0 t2
    have k2 := div_bd (N * (f + k * s) + R) D 1300000000000000000000000000000000 (by omega) (by omega) D1
    unfold lnQ
    omega
  have one : ∀ at_ : Int, flnQ A R N D at_ 0 1 = lnQ A R N D at_ := by
    intro at_
    unfold flnQ lnQ fl
    rw [show (1 : Int).toNat = 0 + 1 from rfl]
    simp only [sm, Int.zero_add]
    rw [show N * 0 * ((0 : Nat) : Int) + (N * at_ + R) = N * at_ + R by simp, Int.mul_one]
  have sm_bd : ∀ k : Nat, (k : Int) ≤ n → -1400000000000000000000000000000000 * k ≤ sm (fun i => lnQ A R N D (f + i * s)) k ∧ sm (fun i => lnQ A R N D (f + i * s)) k ≤ 1400000000000000000000000000000000 * k := by
    intro k
    induction k with
    | zero => intro _; simp [sm]
    | succ k ih =>
      intro hk
      have := ih (by omega)
      have := V_bd k (by omega)
      simp only [sm]
      omega
  refine values_w a0 N0 D0 f0 s0 n0 A Nn md mf mn ms N D R n f s (flnQ A R N D f s n) (fun i => lnQ A R N D (f + i * s)) (fun i => atV A R N D (f + i * s)) (fun i => atE A R N D (f + i * s)) hA hN hmd md0 md1 hmf mf0 mf1 hmn mn0 mn1 hms ms0 ms1 D1 D2 hR hn' hf' hs'
    n1.1 n1.2 f1.1 f1.2 s1.1 s1.2 co c1 ?_ ?_ ?_ ?_ ?_ w
  · intro k hk
    obtain ⟨t0, t2⟩ := at_bd k hk
    have := fsum_Line A R N D (f + k * s) 0 1 hI (by decide) (by decide) t0 t2 (by decide) (by decide) (fun _ => by omega)
    rw [one] at this
    exact this
  · intro k hk
    exact line_At A R N D (f + k * s)
  · intro k hk he
    have ht : tmB (f + k * s) = true := decide_eq_true (at_bd k hk)
    have he : atE A R N D (f + k * s) = 0 := he
    have hv : bkB (lnQ A R N D (f + k * s)) = true ∧ tmB (f + k * s) = true := by
      refine ⟨?_, ht⟩
      cases hb2 : bkB (lnQ A R N D (f + k * s))
      · unfold atE at he
        rw [if_pos hI, if_pos ht, hb2] at he
        exact absurd he (by decide)
      · rfl
    have e : atV A R N D (f + k * s) = lnQ A R N D (f + k * s) := by unfold atV; rw [if_pos ⟨hI, hv.2, hv.1⟩]
    obtain ⟨v1, v2⟩ := of_decide_eq_true hv.1
    simp only [e]
    exact law6_low _ (by omega) (by omega)
  · intro k hk
    have b1 := V_bd k hk
    have b2 := sm_bd k (by omega)
    have b3 := sm_bd (k + 1) (by omega)
    have := law6_plus (sm (fun i => lnQ A R N D (f + i * s)) k) (lnQ A R N D (f + k * s)) 1 ⟨by omega, by omega⟩ ⟨by omega, by omega⟩ (by decide) (by decide) ⟨by omega, by omega⟩ ⟨by omega, by omega⟩
    rw [Int.mul_one] at this
    exact this
  · unfold flnQ lnQ fl
    rw [sm_add, sm_const, show ((n.toNat : Nat) : Int) = n by omega]
    congr 1
    refine sm_congr _ (fun i _ => ?_)
    congr 1
    rw [Int.mul_add, Int.mul_assoc, Int.mul_comm (i : Int) s]
    omega
end Go.Proofs.Ytlgjapjcdpikeaa
