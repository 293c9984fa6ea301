/- (fit).low at this program. -/
import Derived.Test.YtpimkigbdjfjoaaDoorSlideP
import Derived.Test.YtpimkigbdjfjoaaDoorWideS
set_option linter.unusedSimpArgs false
set_option linter.unusedVariables false
namespace Go.Proofs.YtpimkigbdjfjoaaDoor
open Go.RowKit
attribute [local go_sem] Oper.semAt_some

theorem rng_of {x : Int} (h1 : -170141183460469231731687303715884105728 ≤ x) (h2 : x < 170141183460469231731687303715884105728) : Rng x := ⟨h1, h2⟩

set_option maxRecDepth 100000 in
set_option maxHeartbeats 2000000 in
theorem slide_low (g gr o c : Nat) (l : List Bd) (N D : Int) (s0 s1 s2 s3 : Value) (cur : Array Value) (h : Hid (okF (-1) l = true)) (h0 : 0 < l.length) (hl : l.length ≤ 256) (hs : Hid (slB N D = true)) (sd : 1 ≤ D ∧ D ≤ 281474976710656) (sn : -4611688217450643456 ≤ N ∧ N ≤ 4611688217450643456)
    (w : World) (hg : w.heap[g]? = some (.cells #[s0, s1, s2, s3, .slice (some ⟨gr, o, none⟩) l.length c] 78 (0, 0))) (hgr : w.heap[gr]? = some (.cells cur 37 (0, 0)))
    (HC : Hid (∀ i, i < l.length → cur[o + i * 3]? = some (.int .i64 (bd l i).t) ∧ cur[o + i * 3 + 1]? = some (.int .i64 (bd l i).lo) ∧ cur[o + i * 3 + 2]? = some (.int .i64 (bd l i).hi))) :
    Calls Tryd.prog 45 #[.pointer (some ⟨g, 0, none⟩), .agg #[.int .i64 N, .int .i64 D]] w fun e w' => e = .returned (.agg #[.int .i64 (hi (lwK l N D l.length)), .int .u64 (lo (lwK l N D l.length))]) ∧ Below w.heap.size w w' := by
  have he := (HC.out 0 h0).1
  simp only [Nat.zero_mul, Nat.add_zero] at he
  have hr0 := bd_rg h.out 0 h0
  have HAt : Hid (∀ k, lwAt l N D k = (bd l k).lo * D - N * ((bd l k).t - (bd l 0).t)) := hide fun k => rfl
  have HB := hide (fun k hk => lwAt_bd h.out hs.out k hk)
  have HR := hide (fun k hk => lwAt_rng h.out hs.out k hk)
  have HK := hide (fun k hk => lwK_rng h.out hs.out k hk)
  have HS : Hid (∀ k, lwK l N D (k + 1) = if k = 0 ∨ lwK l N D k < lwAt l N D k then lwAt l N D k else lwK l N D k) := hide fun k => by rw [lwK]
  have HL := hide (fun k hk => lw_t h.out k hk)
  have HG := hide (fun k hk => bd_rg h.out k hk)
  have hz : lwK l N D 0 = 0 := rfl
  obtain ⟨t1, t2, -⟩ := hr0
  generalize (bd l 0).t = t0 at *
  generalize hF : lwK l N D = F at *
  clear hF hs h
  have hh0 : hi (F 0) = 0 ∧ lo (F 0) = 0 := by rw [hz]; decide
  clear hz
  go_enter Tryd.func45, Tryd.ntmps45
  obtain ⟨zg_a, zg_b, lg0⟩ := rcell hg
  obtain ⟨zr_a, zr_b, lr0⟩ := rcell hgr
  have zq := (rcell (ka (ka (ka (hg) (.cells #[.int .i64 N, .int .i64 D] 26)) (.cells #[.int .i64 0, .int .u64 0] 57)) (.cells #[.int .i64 0, .int .u64 0] 57))).1
  go_wp2_with fail
  clear zq
  go_loopw [15] (fun vi wr => ∃ k : Nat, vi = .int .i64 k ∧ k ≤ l.length ∧ wr.heap[g]? = some (.cells #[s0, s1, s2, s3, .slice (some ⟨gr, o, none⟩) l.length c] 78 (0, 0)) ∧ wr.heap[gr]? = some (.cells cur 37 (0, 0)) ∧ wr.heap[w.heap.size]? = some (.cells #[.int .i64 N, .int .i64 D] 26 (0, 0)) ∧ wr.heap[w.heap.size + 1]? = some (.cells #[.int .i64 0, .int .u64 0] 57 (0, 0)) ∧ wr.heap[w.heap.size + 2]? = some (.cells #[.int .i64 (hi (F k)), .int .u64 (lo (F k))] 57 (0, 0)) ∧ Below w.heap.size w wr) (fun vi _ => l.length - (intOf vi).toNat)
  case atStart => exact ⟨0, rfl, by omega, (ka (ka (ka (hg) (.cells #[.int .i64 N, .int .i64 D] 26)) (.cells #[.int .i64 0, .int .u64 0] 57)) (.cells #[.int .i64 0, .int .u64 0] 57)), (ka (ka (ka (hgr) (.cells #[.int .i64 N, .int .i64 D] 26)) (.cells #[.int .i64 0, .int .u64 0] 57)) (.cells #[.int .i64 0, .int .u64 0] 57)), (ka (ka (na w #[.int .i64 N, .int .i64 D] 26) (.cells #[.int .i64 0, .int .u64 0] 57)) (.cells #[.int .i64 0, .int .u64 0] 57)), (ka (na1 w (.cells #[.int .i64 N, .int .i64 D] 26) #[.int .i64 0, .int .u64 0] 57) (.cells #[.int .i64 0, .int .u64 0] 57)), by rw [hh0.1, hh0.2]; exact (na2 w (.cells #[.int .i64 N, .int .i64 D] 26) (.cells #[.int .i64 0, .int .u64 0] 57) #[.int .i64 0, .int .u64 0] 57), (bA (bA (bA (b0 w) (.cells #[.int .i64 N, .int .i64 D] 26)) (.cells #[.int .i64 0, .int .u64 0] 57)) (.cells #[.int .i64 0, .int .u64 0] 57))⟩
  case round =>
    obtain ⟨k, rfl, hk, j1, j2, j3, j4, j5, hb⟩ := hrel
    clear hh0
    by_cases hlt : k < l.length
    · obtain ⟨q1, q2, q3⟩ := HC.out k hlt
      obtain ⟨r1, r2, -, ⟨r3, r4⟩, r5, r6⟩ := HG.out k hlt
      obtain ⟨⟨b1, b2⟩, b3, b4⟩ := HB.out k hlt
      obtain ⟨d1, d2⟩ := HR.out k hlt
      obtain ⟨e1, e2⟩ := HK.out k (by omega)
      obtain ⟨l1, l2⟩ := HL.out k hlt
      have HAk := hide (HAt.out k)
      have HSk := hide (HS.out k)
      have c1 := wide_Mul (bd l k).lo D (by omega) (by omega) (by omega) (by omega)
      have c2 := wide_Mul N ((bd l k).t - t0) (by omega) (by omega) (by omega) (by omega)
      have c3 := wide_Sub ((bd l k).lo * D) (N * ((bd l k).t - t0)) (rng_of (by omega) (by omega)) (rng_of (by omega) (by omega)) (by rw [← HAk.out]; exact rng_of (by omega) (by omega))
      rw [← HAk.out] at c3
      have c4 := wide_Compare (lwAt l N D k) (F k) (rng_of (by omega) (by omega)) (rng_of (by omega) (by omega))
      clear b1 b2 b3 b4 d1 d2 e1 e2
      generalize bd l k = b at *
      obtain ⟨bt, bl, bh⟩ := b
      simp only at q1 q2 q3 r1 r2 r3 r4 r5 r6 c1 c2 c3 l1 l2
      generalize bl * D = P at *
      generalize N * (bt - t0) = Q at *
      generalize lwAt l N D k = X at *
      clear HAk
      obtain ⟨zg_a, zg_b, lg1⟩ := rcell j1
      obtain ⟨zr_a, zr_b, lr2⟩ := rcell j2
      obtain ⟨zs_a, zs_b, ls3⟩ := rcell j3
      obtain ⟨zo_a, zo_b, lo4⟩ := rcell j4
      obtain ⟨zc_a, zc_b, lc5⟩ := rcell j5
      go_wp2_with fail
      have f_g6 := (ka (j1) (.cells #[.int .i64 bt, .int .i64 bl, .int .i64 bh] 37))
      have f_r6 := (ka (j2) (.cells #[.int .i64 bt, .int .i64 bl, .int .i64 bh] 37))
      have f_s6 := (ka (j3) (.cells #[.int .i64 bt, .int .i64 bl, .int .i64 bh] 37))
      have f_o6 := (ka (j4) (.cells #[.int .i64 bt, .int .i64 bl, .int .i64 bh] 37))
      have f_c6 := (ka (j5) (.cells #[.int .i64 bt, .int .i64 bl, .int .i64 bh] 37))
      have f_b6 := (na wr #[.int .i64 bt, .int .i64 bl, .int .i64 bh] 37)
      have hB6 := (bA hb (.cells #[.int .i64 bt, .int .i64 bl, .int .i64 bh] 37))
      clear zc_a zc_b zg_a zg_b zo_a zo_b zr_a zr_b zs_a zs_b
      have lg6 := (rcell f_g6).2.2
      have lr6 := (rcell f_r6).2.2
      have ls6 := (rcell f_s6).2.2
      have lo6 := (rcell f_o6).2.2
      have lc6 := (rcell f_c6).2.2
      have lb6 := (rcell f_b6).2.2
      refine Abs.wp_region_abs (Abs.cls0 _) [0, 1, 2, 3, 4, 5, 6, 7, 8, 9, 10, 11, 12, 13, 14, 15, 16, 17, 18, 19, 20, 21, 22, 23, 24] (by kernel_rfl) (by kernel_rfl) (Below.refl _ _).drew ?_
      repeat (first | (refine Abs.step_pure rfl rfl (fun K hK => ?_); go_simp; (try go_bits); (first | refine hK _ _ ?_ | (simp only [↓IntWalk.iteOmega]; go_simp; (try go_bits); refine hK _ _ ?_)); clear hK K) | (refine Abs.step_load (v := ?_) rfl rfl (by kernel_rfl) rfl (fun w0 hI => ?_) (fun K hK => ?_); rotate_left; (· have z0 := (rcell (kp hI (f_g6))).1; have z1 := (rcell (kp hI (f_r6))).1; have z2 := (rcell (kp hI (f_s6))).1; have z3 := (rcell (kp hI (f_b6))).1; go_simp; rfl); (simp only [Act.put, List.setIfInBounds_toArray, List.set_cons_zero, List.set_cons_succ]; refine hK _ _ ?_; clear hK K)) | (refine Abs.step_skip rfl rfl (fun K hK => ?_); (simp only [Act.put, List.setIfInBounds_toArray, List.set_cons_zero, List.set_cons_succ]; refine hK _ _ ?_; clear hK K)))
      (refine Abs.step_call_val (f := ?_) (args := ?_) (v := ?_) rfl rfl rfl rfl (fun w0 => ?_) (fun w0 hI => ?_) (fun K hK => ?_); rotate_left 3; (· go_simp; (constructor <;> rfl)); (· exact c1 _); (simp only [Act.put, List.setIfInBounds_toArray, List.set_cons_zero, List.set_cons_succ]; refine hK _ _ ?_; clear hK K))
      repeat (first | (refine Abs.step_pure rfl rfl (fun K hK => ?_); go_simp; (try go_bits); (first | refine hK _ _ ?_ | (simp only [↓IntWalk.iteOmega]; go_simp; (try go_bits); refine hK _ _ ?_)); clear hK K) | (refine Abs.step_load (v := ?_) rfl rfl (by kernel_rfl) rfl (fun w0 hI => ?_) (fun K hK => ?_); rotate_left; (· have z0 := (rcell (kp hI (f_g6))).1; have z1 := (rcell (kp hI (f_r6))).1; have z2 := (rcell (kp hI (f_s6))).1; have z3 := (rcell (kp hI (f_b6))).1; go_simp; rfl); (simp only [Act.put, List.setIfInBounds_toArray, List.set_cons_zero, List.set_cons_succ]; refine hK _ _ ?_; clear hK K)) | (refine Abs.step_skip rfl rfl (fun K hK => ?_); (simp only [Act.put, List.setIfInBounds_toArray, List.set_cons_zero, List.set_cons_succ]; refine hK _ _ ?_; clear hK K)))
      (refine Abs.step_call_val (f := ?_) (args := ?_) (v := ?_) rfl rfl rfl rfl (fun w0 => ?_) (fun w0 hI => ?_) (fun K hK => ?_); rotate_left 3; (· go_simp; (constructor <;> rfl)); (· exact c2 _); (simp only [Act.put, List.setIfInBounds_toArray, List.set_cons_zero, List.set_cons_succ]; refine hK _ _ ?_; clear hK K))
      repeat (first | (refine Abs.step_pure rfl rfl (fun K hK => ?_); go_simp; (try go_bits); (first | refine hK _ _ ?_ | (simp only [↓IntWalk.iteOmega]; go_simp; (try go_bits); refine hK _ _ ?_)); clear hK K) | (refine Abs.step_load (v := ?_) rfl rfl (by kernel_rfl) rfl (fun w0 hI => ?_) (fun K hK => ?_); rotate_left; (· have z0 := (rcell (kp hI (f_g6))).1; have z1 := (rcell (kp hI (f_r6))).1; have z2 := (rcell (kp hI (f_s6))).1; have z3 := (rcell (kp hI (f_b6))).1; go_simp; rfl); (simp only [Act.put, List.setIfInBounds_toArray, List.set_cons_zero, List.set_cons_succ]; refine hK _ _ ?_; clear hK K)) | (refine Abs.step_skip rfl rfl (fun K hK => ?_); (simp only [Act.put, List.setIfInBounds_toArray, List.set_cons_zero, List.set_cons_succ]; refine hK _ _ ?_; clear hK K)))
      (refine Abs.step_call_val (f := ?_) (args := ?_) (v := ?_) rfl rfl rfl rfl (fun w0 => ?_) (fun w0 hI => ?_) (fun K hK => ?_); rotate_left 3; (· go_simp; (constructor <;> rfl)); (· exact c3 _); (simp only [Act.put, List.setIfInBounds_toArray, List.set_cons_zero, List.set_cons_succ]; refine hK _ _ ?_; clear hK K))
      repeat (first | (refine Abs.step_pure rfl rfl (fun K hK => ?_); go_simp; (try go_bits); (first | refine hK _ _ ?_ | (simp only [↓IntWalk.iteOmega]; go_simp; (try go_bits); refine hK _ _ ?_)); clear hK K) | (refine Abs.step_load (v := ?_) rfl rfl (by kernel_rfl) rfl (fun w0 hI => ?_) (fun K hK => ?_); rotate_left; (· have z0 := (rcell (kp hI (f_g6))).1; have z1 := (rcell (kp hI (f_r6))).1; have z2 := (rcell (kp hI (f_s6))).1; have z3 := (rcell (kp hI (f_b6))).1; go_simp; rfl); (simp only [Act.put, List.setIfInBounds_toArray, List.set_cons_zero, List.set_cons_succ]; refine hK _ _ ?_; clear hK K)) | (refine Abs.step_skip rfl rfl (fun K hK => ?_); (simp only [Act.put, List.setIfInBounds_toArray, List.set_cons_zero, List.set_cons_succ]; refine hK _ _ ?_; clear hK K)))
      (refine Abs.step_var (obj := ?_) rfl rfl rfl rfl (fun w0 => ?_) (fun K hK g_n hv_n hu_n => ?_); rotate_left; (· go_simp; rfl); (simp only [Act.put, List.setIfInBounds_toArray, List.set_cons_zero, List.set_cons_succ]; refine hK _ _ ?_; clear hK K))
      repeat (first | (refine Abs.step_pure rfl rfl (fun K hK => ?_); go_simp; (try go_bits); (first | refine hK _ _ ?_ | (simp only [↓IntWalk.iteOmega]; go_simp; (try go_bits); refine hK _ _ ?_)); clear hK K) | (refine Abs.step_load (v := ?_) rfl rfl (by kernel_rfl) rfl (fun w0 hI => ?_) (fun K hK => ?_); rotate_left; (· have z0 := (rcell (kp hI (f_g6))).1; have z1 := (rcell (kp hI (f_r6))).1; have z2 := (rcell (kp hI (f_s6))).1; have z3 := (rcell (kp hI (f_b6))).1; go_simp; rfl); (simp only [Act.put, List.setIfInBounds_toArray, List.set_cons_zero, List.set_cons_succ]; refine hK _ _ ?_; clear hK K)) | (refine Abs.step_skip rfl rfl (fun K hK => ?_); (simp only [Act.put, List.setIfInBounds_toArray, List.set_cons_zero, List.set_cons_succ]; refine hK _ _ ?_; clear hK K)))
      (refine Abs.step_store (T := ?_) rfl rfl rfl (fun w0 hI hF hU => ?_) (fun _ _ _ _ => trivial) (fun K hK => ?_); rotate_left; (· simp only [Abs.F_setF, Abs.F_addA, Abs.F_push, Abs.F_start, true_and] at hF; have hg0 := (rcell hF).1; have hg1 := (rcell hF).2.1; simp only [Abs.T_setF, Abs.T_addA, Abs.T_push, Abs.T_start]; go_simp; exact row2 hF _ _); (simp only [Act.put, List.setIfInBounds_toArray, List.set_cons_zero, List.set_cons_succ]; refine hK _ _ ?_; clear hK K))
      repeat (first | (refine Abs.step_pure rfl rfl (fun K hK => ?_); go_simp; (try go_bits); (first | refine hK _ _ ?_ | (simp only [↓IntWalk.iteOmega]; go_simp; (try go_bits); refine hK _ _ ?_)); clear hK K) | (refine Abs.step_load (v := ?_) rfl rfl (by kernel_rfl) rfl (fun w0 hI => ?_) (fun K hK => ?_); rotate_left; (· have z0 := (rcell (kp hI (f_g6))).1; have z1 := (rcell (kp hI (f_r6))).1; have z2 := (rcell (kp hI (f_s6))).1; have z3 := (rcell (kp hI (f_b6))).1; go_simp; rfl); (simp only [Act.put, List.setIfInBounds_toArray, List.set_cons_zero, List.set_cons_succ]; refine hK _ _ ?_; clear hK K)) | (refine Abs.step_skip rfl rfl (fun K hK => ?_); (simp only [Act.put, List.setIfInBounds_toArray, List.set_cons_zero, List.set_cons_succ]; refine hK _ _ ?_; clear hK K)))
      have hs_n := leB hv_n
      try simp only [World.size_alloc] at hs_n
      intro w0 hI hF hx1 hx2
      clear hx1 hx2
      simp only [Abs.F_setF, Abs.F_addA, Abs.F_push, Abs.F_start, true_and, Abs.T_push] at hF ⊢
      generalize hT7 : setRow w0 _ _ = w7
      obtain ⟨hb7, f_n7⟩ := fin1 hI hv_n hF hT7
      clear hT7 hI hF w0
      have f_g7 := kp hb7 (f_g6)
      have f_r7 := kp hb7 (f_r6)
      have f_s7 := kp hb7 (f_s6)
      have f_o7 := kp hb7 (f_o6)
      have f_c7 := kp hb7 (f_c6)
      have f_b7 := kp hb7 (f_b6)
      have hB7 := bB hB6 hb7
      obtain ⟨zg_a, zg_b, lg7⟩ := rcell f_g7
      obtain ⟨zr_a, zr_b, lr7⟩ := rcell f_r7
      obtain ⟨zs_a, zs_b, ls7⟩ := rcell f_s7
      obtain ⟨zo_a, zo_b, lo7⟩ := rcell f_o7
      obtain ⟨zc_a, zc_b, lc7⟩ := rcell f_c7
      obtain ⟨zb_a, zb_b, lb7⟩ := rcell f_b7
      obtain ⟨zn_a, zn_b, ln7⟩ := rcell f_n7
      have k0 : ((k : Int) == 0) = decide (k = 0) := by
        rw [Bool.eq_iff_iff]; simp
      by_cases hk0 : k = 0
      · have kk : ((k : Int) == 0) = true := by rw [k0]; exact decide_eq_true hk0
        rw [if_pos (.inl hk0)] at HSk
        clear k0
        go_wp2_with fail
        rw [row2 f_c7]
        generalize hT8 : setRow _ _ _ = w8
        obtain ⟨hx8, f_c8⟩ := fin_x (b0 _) f_c7 hT8
        clear hT8
        have f_g8 := kx hx8 (f_g7) (by omega)
        have f_r8 := kx hx8 (f_r7) (by omega)
        have f_s8 := kx hx8 (f_s7) (by omega)
        have f_o8 := kx hx8 (f_o7) (by omega)
        have f_b8 := kx hx8 (f_b7) (by omega)
        have f_n8 := kx hx8 (f_n7) (by omega)
        have hB8 := bX hB7 hx8 (by omega)
        clear zb_a zb_b zc_a zc_b zg_a zg_b zn_a zn_b zo_a zo_b zr_a zr_b zs_a zs_b
        obtain ⟨zg_a, zg_b, lg8⟩ := rcell f_g8
        obtain ⟨zr_a, zr_b, lr8⟩ := rcell f_r8
        obtain ⟨zs_a, zs_b, ls8⟩ := rcell f_s8
        obtain ⟨zo_a, zo_b, lo8⟩ := rcell f_o8
        obtain ⟨zb_a, zb_b, lb8⟩ := rcell f_b8
        obtain ⟨zn_a, zn_b, ln8⟩ := rcell f_n8
        obtain ⟨zc_a, zc_b, lc8⟩ := rcell f_c8
        go_wp2
        go_roundw
        case rel => exact ⟨k + 1, by go_num, by omega, (f_g8), (f_r8), (f_s8), (f_o8), by rw [HSk.out]; exact (f_c8), hB8⟩
        case measure => simp [intOf]; omega
      · have kk : ((k : Int) == 0) = false := by rw [k0]; exact decide_eq_false hk0
        clear k0
        go_wp2_with fail
        refine (c4 _).mono ?_
        rintro e w8 ⟨rfl, hb8⟩
        have f_g8 := kp hb8 (f_g7)
        have f_r8 := kp hb8 (f_r7)
        have f_s8 := kp hb8 (f_s7)
        have f_o8 := kp hb8 (f_o7)
        have f_c8 := kp hb8 (f_c7)
        have f_b8 := kp hb8 (f_b7)
        have f_n8 := kp hb8 (f_n7)
        have hB8 := bB hB7 hb8
        clear zb_a zb_b zc_a zc_b zg_a zg_b zn_a zn_b zo_a zo_b zr_a zr_b zs_a zs_b
        obtain ⟨zg_a, zg_b, lg8⟩ := rcell f_g8
        obtain ⟨zr_a, zr_b, lr8⟩ := rcell f_r8
        obtain ⟨zs_a, zs_b, ls8⟩ := rcell f_s8
        obtain ⟨zo_a, zo_b, lo8⟩ := rcell f_o8
        obtain ⟨zc_a, zc_b, lc8⟩ := rcell f_c8
        obtain ⟨zb_a, zb_b, lb8⟩ := rcell f_b8
        obtain ⟨zn_a, zn_b, ln8⟩ := rcell f_n8
        by_cases hx : F k < X
        · rw [if_pos (.inr hx)] at HSk
          have hc : cmpI X (F k) = 1 := cmpI_gt hx
          have hc2 : decide (0 < cmpI X (F k)) = true := by rw [hc]; rfl
          go_wp2_with fail
          rw [row2 f_c8]
          generalize hT9 : setRow _ _ _ = w9
          obtain ⟨hx9, f_c9⟩ := fin_x (b0 _) f_c8 hT9
          clear hT9
          have f_g9 := kx hx9 (f_g8) (by omega)
          have f_r9 := kx hx9 (f_r8) (by omega)
          have f_s9 := kx hx9 (f_s8) (by omega)
          have f_o9 := kx hx9 (f_o8) (by omega)
          have f_b9 := kx hx9 (f_b8) (by omega)
          have f_n9 := kx hx9 (f_n8) (by omega)
          have hB9 := bX hB8 hx9 (by omega)
          clear zb_a zb_b zc_a zc_b zg_a zg_b zn_a zn_b zo_a zo_b zr_a zr_b zs_a zs_b
          obtain ⟨zg_a, zg_b, lg9⟩ := rcell f_g9
          obtain ⟨zr_a, zr_b, lr9⟩ := rcell f_r9
          obtain ⟨zs_a, zs_b, ls9⟩ := rcell f_s9
          obtain ⟨zo_a, zo_b, lo9⟩ := rcell f_o9
          obtain ⟨zb_a, zb_b, lb9⟩ := rcell f_b9
          obtain ⟨zn_a, zn_b, ln9⟩ := rcell f_n9
          obtain ⟨zc_a, zc_b, lc9⟩ := rcell f_c9
          go_wp2
          go_roundw
          case rel => exact ⟨k + 1, by go_num, by omega, (f_g9), (f_r9), (f_s9), (f_o9), by rw [HSk.out]; exact (f_c9), hB9⟩
          case measure => simp [intOf]; omega
        · rw [if_neg (by omega)] at HSk
          have hc2 : decide (0 < cmpI X (F k)) = false := by rw [cmp_pos]; exact decide_eq_false hx
          go_wp2
          go_roundw
          case rel => exact ⟨k + 1, by go_num, by omega, (f_g8), (f_r8), (f_s8), (f_o8), by rw [HSk.out]; exact (f_c8), hB8⟩
          case measure => simp [intOf]; omega
    · obtain rfl : k = l.length := by omega
      obtain ⟨zg_a, zg_b, lg9⟩ := rcell j1
      obtain ⟨zr_a, zr_b, lr10⟩ := rcell j2
      obtain ⟨zs_a, zs_b, ls11⟩ := rcell j3
      obtain ⟨zo_a, zo_b, lo12⟩ := rcell j4
      obtain ⟨zc_a, zc_b, lc13⟩ := rcell j5
      go_wp2_with fail
      (rw [row2 (j4)]; generalize hT : setRow _ _ _ = wE; obtain ⟨hbE, hgE⟩ := ret_row hb (by omega) (j4) hT; have zE := (rcell hgE).1; clear hT; refine bodyPost_ret (by simp [results, Tryd.results45, go_sem, zE]; try rfl) rfl ?_)
      exact ⟨rfl, hbE⟩
end Go.Proofs.YtpimkigbdjfjoaaDoor
