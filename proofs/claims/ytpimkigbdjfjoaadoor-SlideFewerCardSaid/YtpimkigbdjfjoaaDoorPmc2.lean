/- (pmc.common).takes at this program. -/
import Derived.Test.YtpimkigbdjfjoaaDoorSpan2
set_option linter.unusedSimpArgs false
set_option linter.unusedVariables false
namespace Go.Proofs.YtpimkigbdjfjoaaDoor
open Go.RowKit
attribute [local go_sem] Oper.semAt_some

theorem two_of {g : Nat} {t : TypeId} {w : World} {a b c d : Int} (h : w.heap[g]? = some (.cells #[.int .i64 a, .int .i64 b, .int .i64 c, .int .i64 d] t (0, 0))) : Two t w (some ⟨g, 0, none⟩) a b c d := ⟨g, _, rfl, h, rfl, rfl, rfl, rfl⟩

set_option maxRecDepth 100000 in
theorem takes_first (g : Nat) (lo hi bt bl bh : Int) (w : World) (hg : w.heap[g]? = some (.cells #[.int .i64 lo, .int .i64 hi, .bool false] 150 (0, 0))) :
    Calls Tryd.prog 123 #[.pointer (some ⟨g, 0, none⟩), .agg #[.int .i64 bt, .int .i64 bl, .int .i64 bh]] w fun e w' => e = .returned (.bool true) ∧ Exc g w w' ∧ w'.heap[g]? = some (.cells #[.int .i64 bl, .int .i64 bh, .bool true] 150 (0, 0)) := by
  have l_g := (rcell hg).2.2
  obtain ⟨zg_a, zg_b, -⟩ := rcell hg
  go_enter Tryd.func123, Tryd.ntmps123
  go_wp2_with fail
  rw [row3 hg]
  generalize hT1 : setRow _ _ _ = w1
  have hz1 : w1.heap.size = w.heap.size := by rw [← hT1]; exact setRow_size _ _ _
  obtain ⟨hx1, f_g1⟩ := fin_x (b0 _) hg hT1
  clear hT1
  have hB1 := xX (x0 g w (Nat.le_of_lt (rcell hg).2.2)) hx1 (by omega)
  clear zg_a zg_b
  obtain ⟨zg_a, zg_b, lg1⟩ := rcell f_g1
  go_ret
  exact ⟨rfl, (xA (xA hB1 (.cells #[.int .i64 bt, .int .i64 bl, .int .i64 bh] 37)) (.cells #[.int .i64 bl, .int .i64 bh] 148)), (ka (ka (f_g1) (.cells #[.int .i64 bt, .int .i64 bl, .int .i64 bh] 37)) (.cells #[.int .i64 bl, .int .i64 bh] 148))⟩

set_option maxRecDepth 100000 in
theorem takes_more (g : Nat) (lo hi bt bl bh x y : Int) (h1 : lo ≤ hi) (h2 : bl ≤ bh) (hx : x = max lo bl) (hy : y = min hi bh) (hxy : x ≤ y) (w : World) (hg : w.heap[g]? = some (.cells #[.int .i64 lo, .int .i64 hi, .bool true] 150 (0, 0))) :
    Calls Tryd.prog 123 #[.pointer (some ⟨g, 0, none⟩), .agg #[.int .i64 bt, .int .i64 bl, .int .i64 bh]] w fun e w' => e = .returned (.bool true) ∧ Exc g w w' ∧ w'.heap[g]? = some (.cells #[.int .i64 x, .int .i64 y, .bool true] 150 (0, 0)) := by
  have cM := fun A w hA => span_Meet A 2 lo hi bl bh x y h1 h2 hx hy x y 0 (fun _ => ⟨rfl, rfl, rfl⟩) (fun h => absurd hxy (by omega)) w hA
  clear hx hy hxy
  have l_g := (rcell hg).2.2
  obtain ⟨zg_a, zg_b, -⟩ := rcell hg
  go_enter Tryd.func123, Tryd.ntmps123
  go_wp2_with fail
  have f_g1 := (ka (ka (hg) (.cells #[.int .i64 bt, .int .i64 bl, .int .i64 bh] 37)) (.cells #[.int .i64 bl, .int .i64 bh] 148))
  have f_b1 := (ka (na w #[.int .i64 bt, .int .i64 bl, .int .i64 bh] 37) (.cells #[.int .i64 bl, .int .i64 bh] 148))
  have f_o1 := (na1 w (.cells #[.int .i64 bt, .int .i64 bl, .int .i64 bh] 37) #[.int .i64 bl, .int .i64 bh] 148)
  have hB1 := (xA (xA (x0 g w (Nat.le_of_lt (rcell hg).2.2)) (.cells #[.int .i64 bt, .int .i64 bl, .int .i64 bh] 37)) (.cells #[.int .i64 bl, .int .i64 bh] 148))
  clear zg_a zg_b
  have lg1 := (rcell f_g1).2.2
  have lb1 := (rcell f_b1).2.2
  have lo1 := (rcell f_o1).2.2
  refine Abs.wp_region_abs (Abs.cls0 _) [0, 1, 2, 3, 4, 5, 6, 7, 8, 9, 10, 11, 12] (by kernel_rfl) (by kernel_rfl) (Below.refl _ _).drew ?_
  repeat (first | (refine Abs.step_pure rfl rfl (fun K hK => ?_); go_simp; (try go_bits); (first | refine hK _ _ ?_ | (simp only [↓IntWalk.iteOmega]; go_simp; (try go_bits); refine hK _ _ ?_)); clear hK K) | (refine Abs.step_load (v := ?_) rfl rfl (by kernel_rfl) rfl (fun w0 hI => ?_) (fun K hK => ?_); rotate_left; (· have z0 := (rcell (kp hI (f_g1))).1; have z1 := (rcell (kp hI (f_o1))).1; go_simp; rfl); (simp only [Act.put, List.setIfInBounds_toArray, List.set_cons_zero, List.set_cons_succ]; refine hK _ _ ?_; clear hK K)) | (refine Abs.step_skip rfl rfl (fun K hK => ?_); (simp only [Act.put, List.setIfInBounds_toArray, List.set_cons_zero, List.set_cons_succ]; refine hK _ _ ?_; clear hK K)))
  (refine Abs.step_new (f := fun g => .slice (some ⟨g, 0, none⟩) 2 2) (obj := .cells #[.int .i64 lo, .int .i64 hi, .int .i64 bl, .int .i64 bh] 148) rfl rfl rfl rfl (fun w0 => ?_) (fun K hK g_x hv_x hu_x => ?_); (· go_simp; try rfl); (simp only [Act.put, List.setIfInBounds_toArray, List.set_cons_zero, List.set_cons_succ]; refine hK _ _ ?_; clear hK K))
  repeat (first | (refine Abs.step_pure rfl rfl (fun K hK => ?_); go_simp; (try go_bits); (first | refine hK _ _ ?_ | (simp only [↓IntWalk.iteOmega]; go_simp; (try go_bits); refine hK _ _ ?_)); clear hK K) | (refine Abs.step_load (v := ?_) rfl rfl (by kernel_rfl) rfl (fun w0 hI => ?_) (fun K hK => ?_); rotate_left; (· have z0 := (rcell (kp hI (f_g1))).1; have z1 := (rcell (kp hI (f_o1))).1; go_simp; rfl); (simp only [Act.put, List.setIfInBounds_toArray, List.set_cons_zero, List.set_cons_succ]; refine hK _ _ ?_; clear hK K)) | (refine Abs.step_skip rfl rfl (fun K hK => ?_); (simp only [Act.put, List.setIfInBounds_toArray, List.set_cons_zero, List.set_cons_succ]; refine hK _ _ ?_; clear hK K)))
  (refine Abs.step_call (f := ?_) (args := ?_) rfl rfl rfl rfl (fun v _ => v = .tuple #[.agg #[.int .i64 x, .int .i64 y], .int .i64 0]) (fun _ _ _ h _ => h) (fun w0 => ?_) (fun w0 hI hF => ?_) (fun K hK v w0 hv => ?_); rotate_left 2; (· go_simp; (constructor <;> rfl)); (· exact (cM _ w0 (two_of ((hF 5 (by kernel_rfl)).2 rfl))).mono (fun _ _ h => ⟨_, h.1, h.2, rfl⟩)); (replace hv : v = .tuple #[.agg #[.int .i64 x, .int .i64 y], .int .i64 0] := hv; subst hv; clear w0; simp only [Act.put, List.setIfInBounds_toArray, List.set_cons_zero, List.set_cons_succ]; refine hK _ _ ?_; clear hK K))
  repeat (first | (refine Abs.step_pure rfl rfl (fun K hK => ?_); go_simp; (try go_bits); (first | refine hK _ _ ?_ | (simp only [↓IntWalk.iteOmega]; go_simp; (try go_bits); refine hK _ _ ?_)); clear hK K) | (refine Abs.step_load (v := ?_) rfl rfl (by kernel_rfl) rfl (fun w0 hI => ?_) (fun K hK => ?_); rotate_left; (· have z0 := (rcell (kp hI (f_g1))).1; have z1 := (rcell (kp hI (f_o1))).1; go_simp; rfl); (simp only [Act.put, List.setIfInBounds_toArray, List.set_cons_zero, List.set_cons_succ]; refine hK _ _ ?_; clear hK K)) | (refine Abs.step_skip rfl rfl (fun K hK => ?_); (simp only [Act.put, List.setIfInBounds_toArray, List.set_cons_zero, List.set_cons_succ]; refine hK _ _ ?_; clear hK K)))
  (refine Abs.step_var (obj := ?_) rfl rfl rfl rfl (fun w0 => ?_) (fun K hK g_v hv_v hu_v => ?_); rotate_left; (· go_simp; rfl); (simp only [Act.put, List.setIfInBounds_toArray, List.set_cons_zero, List.set_cons_succ]; refine hK _ _ ?_; clear hK K))
  repeat (first | (refine Abs.step_pure rfl rfl (fun K hK => ?_); go_simp; (try go_bits); (first | refine hK _ _ ?_ | (simp only [↓IntWalk.iteOmega]; go_simp; (try go_bits); refine hK _ _ ?_)); clear hK K) | (refine Abs.step_load (v := ?_) rfl rfl (by kernel_rfl) rfl (fun w0 hI => ?_) (fun K hK => ?_); rotate_left; (· have z0 := (rcell (kp hI (f_g1))).1; have z1 := (rcell (kp hI (f_o1))).1; go_simp; rfl); (simp only [Act.put, List.setIfInBounds_toArray, List.set_cons_zero, List.set_cons_succ]; refine hK _ _ ?_; clear hK K)) | (refine Abs.step_skip rfl rfl (fun K hK => ?_); (simp only [Act.put, List.setIfInBounds_toArray, List.set_cons_zero, List.set_cons_succ]; refine hK _ _ ?_; clear hK K)))
  (refine Abs.step_store (T := ?_) rfl rfl rfl (fun w0 hI hF hU => ?_) (fun _ _ _ _ => trivial) (fun K hK => ?_); rotate_left; (· have hR := (hF 10).2 rfl; have hg0 := (rcell hR).1; have hg1 := (rcell hR).2.1; simp only [Abs.T_setF, Abs.T_addA, Abs.T_push, Abs.T_start]; go_simp; exact row2 hR _ _); (simp only [Act.put, List.setIfInBounds_toArray, List.set_cons_zero, List.set_cons_succ]; refine hK _ _ ?_; clear hK K))
  repeat (first | (refine Abs.step_pure rfl rfl (fun K hK => ?_); go_simp; (try go_bits); (first | refine hK _ _ ?_ | (simp only [↓IntWalk.iteOmega]; go_simp; (try go_bits); refine hK _ _ ?_)); clear hK K) | (refine Abs.step_load (v := ?_) rfl rfl (by kernel_rfl) rfl (fun w0 hI => ?_) (fun K hK => ?_); rotate_left; (· have z0 := (rcell (kp hI (f_g1))).1; have z1 := (rcell (kp hI (f_o1))).1; go_simp; rfl); (simp only [Act.put, List.setIfInBounds_toArray, List.set_cons_zero, List.set_cons_succ]; refine hK _ _ ?_; clear hK K)) | (refine Abs.step_skip rfl rfl (fun K hK => ?_); (simp only [Act.put, List.setIfInBounds_toArray, List.set_cons_zero, List.set_cons_succ]; refine hK _ _ ?_; clear hK K)))
  have hs_v := leB hv_v
  try simp only [World.size_alloc] at hs_v
  intro w0 hI hF hx1 hx2
  clear hx1 hx2
  have q1 := (hF 10).2 rfl
  clear hF
  simp only [Abs.T_push]
  generalize hT2 : setRow w0 _ _ = w2
  have ea := (fin_x (b0 _) q1 hT2).1
  obtain ⟨hb2, f_v2⟩ := fin1 hI hv_v q1 hT2
  clear hT2 hI ea q1 w0
  have f_g2 := kp hb2 (f_g1)
  have f_b2 := kp hb2 (f_b1)
  have f_o2 := kp hb2 (f_o1)
  have hB2 := xB hB1 hb2
  obtain ⟨zg_a, zg_b, lg2⟩ := rcell f_g2
  obtain ⟨zb_a, zb_b, lb2⟩ := rcell f_b2
  obtain ⟨zo_a, zo_b, lo2⟩ := rcell f_o2
  obtain ⟨zv_a, zv_b, lv2⟩ := rcell f_v2
  go_wp2_with fail
  rw [row2 f_o2]
  generalize hT3 : setRow _ _ _ = w3
  obtain ⟨hx3, f_o3⟩ := fin_x (b0 _) f_o2 hT3
  clear hT3
  have f_g3 := kx hx3 (f_g2) (by omega)
  have f_b3 := kx hx3 (f_b2) (by omega)
  have f_v3 := kx hx3 (f_v2) (by omega)
  have hB3 := xX hB2 hx3 (by omega)
  clear zb_a zb_b zg_a zg_b zo_a zo_b zv_a zv_b
  obtain ⟨zg_a, zg_b, lg3⟩ := rcell f_g3
  obtain ⟨zb_a, zb_b, lb3⟩ := rcell f_b3
  obtain ⟨zv_a, zv_b, lv3⟩ := rcell f_v3
  obtain ⟨zo_a, zo_b, lo3⟩ := rcell f_o3
  rw [row3 f_g3]
  generalize hT4 : setRow _ _ _ = w4
  obtain ⟨hx4, f_g4⟩ := fin_x (b0 _) f_g3 hT4
  clear hT4
  have f_b4 := kx hx4 (f_b3) (by omega)
  have f_v4 := kx hx4 (f_v3) (by omega)
  have f_o4 := kx hx4 (f_o3) (by omega)
  have hB4 := xX hB3 hx4 (by omega)
  clear zb_a zb_b zg_a zg_b zo_a zo_b zv_a zv_b
  obtain ⟨zb_a, zb_b, lb4⟩ := rcell f_b4
  obtain ⟨zv_a, zv_b, lv4⟩ := rcell f_v4
  obtain ⟨zo_a, zo_b, lo4⟩ := rcell f_o4
  obtain ⟨zg_a, zg_b, lg4⟩ := rcell f_g4
  go_ret
  exact ⟨rfl, hB4, (f_g4)⟩

set_option maxRecDepth 100000 in
theorem takes_no (g : Nat) (lo hi bt bl bh x y : Int) (h1 : lo ≤ hi) (h2 : bl ≤ bh) (hx : x = max lo bl) (hy : y = min hi bh) (hxy : y < x) (w : World) (hg : w.heap[g]? = some (.cells #[.int .i64 lo, .int .i64 hi, .bool true] 150 (0, 0))) :
    Calls Tryd.prog 123 #[.pointer (some ⟨g, 0, none⟩), .agg #[.int .i64 bt, .int .i64 bl, .int .i64 bh]] w fun e w' => e = .returned (.bool false) ∧ Exc g w w' ∧ w'.heap[g]? = some (.cells #[.int .i64 lo, .int .i64 hi, .bool true] 150 (0, 0)) := by
  have cM := fun A w hA => span_Meet A 2 lo hi bl bh x y h1 h2 hx hy 0 0 9 (fun h => absurd hxy (by omega)) (fun _ => ⟨rfl, rfl, rfl⟩) w hA
  clear hx hy hxy
  have l_g := (rcell hg).2.2
  obtain ⟨zg_a, zg_b, -⟩ := rcell hg
  go_enter Tryd.func123, Tryd.ntmps123
  go_wp2_with fail
  have f_g1 := (ka (ka (hg) (.cells #[.int .i64 bt, .int .i64 bl, .int .i64 bh] 37)) (.cells #[.int .i64 bl, .int .i64 bh] 148))
  have f_b1 := (ka (na w #[.int .i64 bt, .int .i64 bl, .int .i64 bh] 37) (.cells #[.int .i64 bl, .int .i64 bh] 148))
  have f_o1 := (na1 w (.cells #[.int .i64 bt, .int .i64 bl, .int .i64 bh] 37) #[.int .i64 bl, .int .i64 bh] 148)
  have hB1 := (xA (xA (x0 g w (Nat.le_of_lt (rcell hg).2.2)) (.cells #[.int .i64 bt, .int .i64 bl, .int .i64 bh] 37)) (.cells #[.int .i64 bl, .int .i64 bh] 148))
  clear zg_a zg_b
  have lg1 := (rcell f_g1).2.2
  have lb1 := (rcell f_b1).2.2
  have lo1 := (rcell f_o1).2.2
  refine Abs.wp_region_abs (Abs.cls0 _) [0, 1, 2, 3, 4, 5, 6, 7, 8, 9, 10, 11, 12] (by kernel_rfl) (by kernel_rfl) (Below.refl _ _).drew ?_
  repeat (first | (refine Abs.step_pure rfl rfl (fun K hK => ?_); go_simp; (try go_bits); (first | refine hK _ _ ?_ | (simp only [↓IntWalk.iteOmega]; go_simp; (try go_bits); refine hK _ _ ?_)); clear hK K) | (refine Abs.step_load (v := ?_) rfl rfl (by kernel_rfl) rfl (fun w0 hI => ?_) (fun K hK => ?_); rotate_left; (· have z0 := (rcell (kp hI (f_g1))).1; have z1 := (rcell (kp hI (f_o1))).1; go_simp; rfl); (simp only [Act.put, List.setIfInBounds_toArray, List.set_cons_zero, List.set_cons_succ]; refine hK _ _ ?_; clear hK K)) | (refine Abs.step_skip rfl rfl (fun K hK => ?_); (simp only [Act.put, List.setIfInBounds_toArray, List.set_cons_zero, List.set_cons_succ]; refine hK _ _ ?_; clear hK K)))
  (refine Abs.step_new (f := fun g => .slice (some ⟨g, 0, none⟩) 2 2) (obj := .cells #[.int .i64 lo, .int .i64 hi, .int .i64 bl, .int .i64 bh] 148) rfl rfl rfl rfl (fun w0 => ?_) (fun K hK g_x hv_x hu_x => ?_); (· go_simp; try rfl); (simp only [Act.put, List.setIfInBounds_toArray, List.set_cons_zero, List.set_cons_succ]; refine hK _ _ ?_; clear hK K))
  repeat (first | (refine Abs.step_pure rfl rfl (fun K hK => ?_); go_simp; (try go_bits); (first | refine hK _ _ ?_ | (simp only [↓IntWalk.iteOmega]; go_simp; (try go_bits); refine hK _ _ ?_)); clear hK K) | (refine Abs.step_load (v := ?_) rfl rfl (by kernel_rfl) rfl (fun w0 hI => ?_) (fun K hK => ?_); rotate_left; (· have z0 := (rcell (kp hI (f_g1))).1; have z1 := (rcell (kp hI (f_o1))).1; go_simp; rfl); (simp only [Act.put, List.setIfInBounds_toArray, List.set_cons_zero, List.set_cons_succ]; refine hK _ _ ?_; clear hK K)) | (refine Abs.step_skip rfl rfl (fun K hK => ?_); (simp only [Act.put, List.setIfInBounds_toArray, List.set_cons_zero, List.set_cons_succ]; refine hK _ _ ?_; clear hK K)))
  (refine Abs.step_call (f := ?_) (args := ?_) rfl rfl rfl rfl (fun v _ => v = .tuple #[.agg #[.int .i64 0, .int .i64 0], .int .i64 9]) (fun _ _ _ h _ => h) (fun w0 => ?_) (fun w0 hI hF => ?_) (fun K hK v w0 hv => ?_); rotate_left 2; (· go_simp; (constructor <;> rfl)); (· exact (cM _ w0 (two_of ((hF 5 (by kernel_rfl)).2 rfl))).mono (fun _ _ h => ⟨_, h.1, h.2, rfl⟩)); (replace hv : v = .tuple #[.agg #[.int .i64 0, .int .i64 0], .int .i64 9] := hv; subst hv; clear w0; simp only [Act.put, List.setIfInBounds_toArray, List.set_cons_zero, List.set_cons_succ]; refine hK _ _ ?_; clear hK K))
  repeat (first | (refine Abs.step_pure rfl rfl (fun K hK => ?_); go_simp; (try go_bits); (first | refine hK _ _ ?_ | (simp only [↓IntWalk.iteOmega]; go_simp; (try go_bits); refine hK _ _ ?_)); clear hK K) | (refine Abs.step_load (v := ?_) rfl rfl (by kernel_rfl) rfl (fun w0 hI => ?_) (fun K hK => ?_); rotate_left; (· have z0 := (rcell (kp hI (f_g1))).1; have z1 := (rcell (kp hI (f_o1))).1; go_simp; rfl); (simp only [Act.put, List.setIfInBounds_toArray, List.set_cons_zero, List.set_cons_succ]; refine hK _ _ ?_; clear hK K)) | (refine Abs.step_skip rfl rfl (fun K hK => ?_); (simp only [Act.put, List.setIfInBounds_toArray, List.set_cons_zero, List.set_cons_succ]; refine hK _ _ ?_; clear hK K)))
  (refine Abs.step_var (obj := ?_) rfl rfl rfl rfl (fun w0 => ?_) (fun K hK g_v hv_v hu_v => ?_); rotate_left; (· go_simp; rfl); (simp only [Act.put, List.setIfInBounds_toArray, List.set_cons_zero, List.set_cons_succ]; refine hK _ _ ?_; clear hK K))
  repeat (first | (refine Abs.step_pure rfl rfl (fun K hK => ?_); go_simp; (try go_bits); (first | refine hK _ _ ?_ | (simp only [↓IntWalk.iteOmega]; go_simp; (try go_bits); refine hK _ _ ?_)); clear hK K) | (refine Abs.step_load (v := ?_) rfl rfl (by kernel_rfl) rfl (fun w0 hI => ?_) (fun K hK => ?_); rotate_left; (· have z0 := (rcell (kp hI (f_g1))).1; have z1 := (rcell (kp hI (f_o1))).1; go_simp; rfl); (simp only [Act.put, List.setIfInBounds_toArray, List.set_cons_zero, List.set_cons_succ]; refine hK _ _ ?_; clear hK K)) | (refine Abs.step_skip rfl rfl (fun K hK => ?_); (simp only [Act.put, List.setIfInBounds_toArray, List.set_cons_zero, List.set_cons_succ]; refine hK _ _ ?_; clear hK K)))
  (refine Abs.step_store (T := ?_) rfl rfl rfl (fun w0 hI hF hU => ?_) (fun _ _ _ _ => trivial) (fun K hK => ?_); rotate_left; (· have hR := (hF 10).2 rfl; have hg0 := (rcell hR).1; have hg1 := (rcell hR).2.1; simp only [Abs.T_setF, Abs.T_addA, Abs.T_push, Abs.T_start]; go_simp; exact row2 hR _ _); (simp only [Act.put, List.setIfInBounds_toArray, List.set_cons_zero, List.set_cons_succ]; refine hK _ _ ?_; clear hK K))
  repeat (first | (refine Abs.step_pure rfl rfl (fun K hK => ?_); go_simp; (try go_bits); (first | refine hK _ _ ?_ | (simp only [↓IntWalk.iteOmega]; go_simp; (try go_bits); refine hK _ _ ?_)); clear hK K) | (refine Abs.step_load (v := ?_) rfl rfl (by kernel_rfl) rfl (fun w0 hI => ?_) (fun K hK => ?_); rotate_left; (· have z0 := (rcell (kp hI (f_g1))).1; have z1 := (rcell (kp hI (f_o1))).1; go_simp; rfl); (simp only [Act.put, List.setIfInBounds_toArray, List.set_cons_zero, List.set_cons_succ]; refine hK _ _ ?_; clear hK K)) | (refine Abs.step_skip rfl rfl (fun K hK => ?_); (simp only [Act.put, List.setIfInBounds_toArray, List.set_cons_zero, List.set_cons_succ]; refine hK _ _ ?_; clear hK K)))
  have hs_v := leB hv_v
  try simp only [World.size_alloc] at hs_v
  intro w0 hI hF hx1 hx2
  clear hx1 hx2
  have q1 := (hF 10).2 rfl
  clear hF
  simp only [Abs.T_push]
  generalize hT2 : setRow w0 _ _ = w2
  have ea := (fin_x (b0 _) q1 hT2).1
  obtain ⟨hb2, f_v2⟩ := fin1 hI hv_v q1 hT2
  clear hT2 hI ea q1 w0
  have f_g2 := kp hb2 (f_g1)
  have f_b2 := kp hb2 (f_b1)
  have f_o2 := kp hb2 (f_o1)
  have hB2 := xB hB1 hb2
  obtain ⟨zg_a, zg_b, lg2⟩ := rcell f_g2
  obtain ⟨zb_a, zb_b, lb2⟩ := rcell f_b2
  obtain ⟨zo_a, zo_b, lo2⟩ := rcell f_o2
  obtain ⟨zv_a, zv_b, lv2⟩ := rcell f_v2
  go_wp2
  go_ret
  exact ⟨rfl, hB2, (f_g2)⟩

end Go.Proofs.YtpimkigbdjfjoaaDoor
