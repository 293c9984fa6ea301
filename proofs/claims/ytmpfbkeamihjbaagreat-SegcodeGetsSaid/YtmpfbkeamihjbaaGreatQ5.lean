/- The package segcode at this program: the reader's numbers. The package segcode at this program: the reader's kind. The package segcode at this program: the reader's lines. The package segcode at this program: the reader's rows of numbers. The package segcode at this program: the reader's runs. The package segcode at this program: the reader's segments. -/
import Derived.Test.YtmpfbkeamihjbaaGreatQ3
import Derived.Test.YtmpfbkeamihjbaaGreatQ2
import Derived.Test.YtmpfbkeamihjbaaGreatQ4
import Derived.Test.YtmpfbkeamihjbaaGreatTail
import Derived.Test.YtmpfbkeamihjbaaGreatQ1
set_option linter.unusedSimpArgs false
set_option linter.unusedVariables false
namespace Go.Proofs.YtmpfbkeamihjbaaGreat
open Go.RowKit
attribute [local go_sem] Oper.semAt_some

theorem gt_le : ∀ (l : List Int) (k acc : Nat) (N m : Nat), gt l k acc = .ok (N, m) → k < m ∧ m ≤ k + l.length
  | [], _, _, _, _, h => by cases h
  | x :: r, k, acc, N, m, h => by
    rw [gt] at h
    split at h
    · cases h
    · split at h
      · cases h
      · split at h
        · injection h with h
          injection h with h h2
          rw [List.length_cons]
          omega
        · have := gt_le r (k + 1) _ N m h
          rw [List.length_cons]
          omega
theorem gU_le {b : List Int} {at' N nx : Nat} (ha : at' ≤ b.length) (h : gU b at' = .ok (N, nx)) : at' < nx ∧ nx ≤ b.length := by
  unfold gU at h
  cases e : gt (b.drop at') 0 0 with
  | error x => rw [e] at h; cases h
  | ok p =>
    obtain ⟨N', m⟩ := p
    rw [e] at h
    injection h with h
    injection h with h h2
    have := gt_le _ _ _ _ _ e
    rw [List.length_drop] at this
    omega
theorem gt_err : ∀ (l : List Int) (k acc : Nat) (x : Int), gt l k acc = .error x → x = 6 ∨ x = 7
  | [], _, _, _, h => by
    injection h with h
    exact .inl h.symm
  | y :: r, k, acc, x, h => by
    rw [gt] at h
    split at h
    · injection h with h; exact .inr h.symm
    · split at h
      · injection h with h; exact .inr h.symm
      · split at h
        · cases h
        · exact gt_err r _ _ x h
theorem gU_err {b : List Int} {at' : Nat} {x : Int} (h : gU b at' = .error x) : x = 6 ∨ x = 7 := by
  unfold gU at h
  cases e : gt (b.drop at') 0 0 with
  | error y =>
    rw [e] at h
    injection h with h
    subst h
    exact gt_err _ _ _ _ e
  | ok p => rw [e] at h; cases h
theorem pU_gU {b : List Int} {most at' N nx : Nat} (h : pU b most at' = .ok (N, nx)) : gU b at' = .ok (N, nx) ∧ N ≤ most := by
  unfold pU at h
  cases e : gU b at' with
  | error y => rw [e] at h; cases h
  | ok p =>
    obtain ⟨N', nx'⟩ := p
    rw [e] at h
    simp only at h
    split at h
    · next hN =>
      injection h with h
      injection h with h h2
      subst h h2
      exact ⟨rfl, hN⟩
    · cases h
theorem pU_le {b : List Int} {most at' N nx : Nat} (h : pU b most at' = .ok (N, nx)) : N ≤ most := (pU_gU h).2
theorem pS_gU {b : List Int} {at' : Nat} {n : Int} {nx : Nat} (h : pS b at' = .ok (n, nx)) : ∃ N, gU b at' = .ok (N, nx) ∧ n = unfold' N := by
  unfold pS at h
  cases e : gU b at' with
  | error y => rw [e] at h; cases h
  | ok p =>
    obtain ⟨N, nx'⟩ := p
    rw [e] at h
    injection h with h
    injection h with h h2
    subst h h2
    exact ⟨N, rfl, rfl⟩
theorem pS_err {b : List Int} {at' : Nat} {x : Int} (h : pS b at' = .error x) : x = 6 ∨ x = 7 := by
  unfold pS at h
  cases e : gU b at' with
  | error y =>
    rw [e] at h
    injection h with h
    subst h
    exact gU_err e
  | ok p => rw [e] at h; cases h
theorem unfold_bd {N : Nat} (h : N < 18446744073709551616) : -9223372036854775808 ≤ unfold' N ∧ unfold' N ≤ 9223372036854775807 := by unfold unfold'; split <;> omega
theorem pS_bd {b : List Int} (hb : Byt b) {at' : Nat} {n : Int} {nx : Nat} (h : pS b at' = .ok (n, nx)) : -9223372036854775808 ≤ n ∧ n ≤ 9223372036854775807 := by
  obtain ⟨N, h1, rfl⟩ := pS_gU h
  exact unfold_bd (gU_lt hb h1)

/-- what a reader throws -/
def pn (z : Int) : PanicEntry := { v := .iface 31 (.int .i64 z), recovered := false }
/-- a reader of bytes, and where it stands -/
structure Rdr (g : Nat) (B : Option Addr) (c : Nat) (b : List Int) (at' : Nat) (w : World) : Prop where
  hg : w.heap[g]? = some (.cells #[.int .i64 (at' : Int), .slice B b.length c] 77 (0, 0))
  hy : YR w B c b
  le : at' ≤ b.length
section
variable {g : Nat} {B : Option Addr} {c : Nat} {b : List Int}
theorem Rdr.below {at' : Nat} {w w' : World} (h : Rdr g B c b at' w) (hb : Below w.heap.size w w') : Rdr g B c b at' w' := ⟨kp hb h.hg, h.hy.below hb, h.le⟩
theorem Rdr.lt {at' : Nat} {w : World} (h : Rdr g B c b at' w) : g < w.heap.size := (rcell h.hg).2.2
theorem RR.wd {at' : Nat} {w w1 : World} {A : Option Addr} {d : Nat} {l : List Rn} (h : RR w A d l) (hx : Exc g w w1) (hg : Rdr g B c b at' w) : RR w1 A d l := h.exc hx hg.hg (by decide)
theorem CR.wd {at' : Nat} {w w1 : World} {A : Option Addr} {d : Nat} {l : List Int} (h : VR w A d l) (hx : Exc g w w1) (hg : Rdr g B c b at' w) : VR w1 A d l := h.exc hx hg.hg (by decide)
end
/-- how a reader's function ends -/
def RP {α : Type} (g : Nat) (B : Option Addr) (c : Nat) (b : List Int) (V : α → Value) (r : Except Int (α × Nat)) (w : World) (e : Ending) (w' : World) : Prop :=
  match r with
  | .ok (x, nx) => e = .returned (V x) ∧ Exc g w w' ∧ Rdr g B c b nx w'
  | .error z => e = .panicked [pn z] ∧ Exc g w w'

theorem need_yes (z : Int) (w : World) : Calls Tryz.prog 71 #[.bool true, .int .i64 z] w fun e w' => e = .returned (.tuple #[]) ∧ w = w' := by
  go_enter Tryz.func71, Tryz.ntmps71
  go_wp2
  go_end0
  exact ⟨rfl, rfl⟩
theorem need_no (z : Int) (w : World) : Calls Tryz.prog 71 #[.bool false, .int .i64 z] w fun e w' => e = .panicked [pn z] ∧ w = w' := by
  go_enter Tryz.func71, Tryz.ntmps71
  go_wp2
  exact ⟨rfl, rfl, rfl⟩

section
variable (g : Nat) (B : Option Addr) (c : Nat) (b : List Int) (hb : Byt b) (at' : Nat)
set_option maxRecDepth 100000 in
set_option maxHeartbeats 2000000 in
include hb in
theorem r_plain (most : Nat) (hm : most ≤ 4611686018427387904) (w : World) (h : Rdr g B c b at' w) :
    Calls Tryz.prog 66 #[.pointer (some ⟨g, 0, none⟩), .int .u64 (most : Int)] w (RP g B c b (fun (N : Nat) => .int .i64 (N : Int)) (pU b most at') w) := by
  have c1 := fun w hy => vary_GetU B c at' b hb h.le w hy
  have hle := @gU_le b at'
  have hy := h.hy
  have hg := h.hg
  unfold pU
  cases hr : gU b at' with
  | error x =>
    rw [hr] at c1
    have hx := gU_err hr
    have dx : (x == 0) = false := by simp; omega
    clear hr hle
    simp only
    have c2 := need_no x
    unfold RP
    simp only
    have lgw : g < w.heap.size := h.lt
    go_enter Tryz.func66, Tryz.ntmps66
    obtain ⟨zg_a, zg_b, lg0⟩ := rcell hg
    go_wp2_with fail
    refine Abs.wp_region_abs (Abs.cls0 _) [0, 1, 2, 3, 4, 5, 6, 7, 8, 9, 10, 11, 12, 13, 14, 15, 16] (by kernel_rfl) (by kernel_rfl) (Below.refl _ _).drew ?_
    repeat (first | (refine Abs.step_pure rfl rfl (fun K hK => ?_); go_simp; (try go_bits); (first | refine hK _ _ ?_ | (simp only [↓IntWalk.iteOmega]; go_simp; (try go_bits); refine hK _ _ ?_)); clear hK K) | (refine Abs.step_load (v := ?_) rfl rfl (by kernel_rfl) rfl (fun w0 hI => ?_) (fun K hK => ?_); rotate_left; (· have z0 := (rcell (kp hI (hg))).1; go_simp; rfl); (simp only [Act.put, List.setIfInBounds_toArray, List.set_cons_zero, List.set_cons_succ]; refine hK _ _ ?_; clear hK K)) | (refine Abs.step_skip rfl rfl (fun K hK => ?_); (simp only [Act.put, List.setIfInBounds_toArray, List.set_cons_zero, List.set_cons_succ]; refine hK _ _ ?_; clear hK K)))
    (refine Abs.step_call_val (f := ?_) (args := ?_) (v := ?_) rfl rfl rfl rfl (fun w0 => ?_) (fun w0 hI => ?_) (fun K hK => ?_); rotate_left 3; (· go_simp; (constructor <;> rfl)); (· exact c1 _ (hy.below hI)); (simp only [Act.put, List.setIfInBounds_toArray, List.set_cons_zero, List.set_cons_succ]; refine hK _ _ ?_; clear hK K))
    repeat (first | (refine Abs.step_pure rfl rfl (fun K hK => ?_); go_simp; (try go_bits); (first | refine hK _ _ ?_ | (simp only [↓IntWalk.iteOmega]; go_simp; (try go_bits); refine hK _ _ ?_)); clear hK K) | (refine Abs.step_load (v := ?_) rfl rfl (by kernel_rfl) rfl (fun w0 hI => ?_) (fun K hK => ?_); rotate_left; (· have z0 := (rcell (kp hI (hg))).1; go_simp; rfl); (simp only [Act.put, List.setIfInBounds_toArray, List.set_cons_zero, List.set_cons_succ]; refine hK _ _ ?_; clear hK K)) | (refine Abs.step_skip rfl rfl (fun K hK => ?_); (simp only [Act.put, List.setIfInBounds_toArray, List.set_cons_zero, List.set_cons_succ]; refine hK _ _ ?_; clear hK K)))
    intro w2 hb2 hx0 hx1 hx2
    clear hx0 hx1 hx2
    simp only [Abs.T_setF, Abs.T_addA, Abs.T_push, Abs.T_start]
    have f_g2 := kp hb2 (hg)
    have rd_W2 := h.below hb2
    have rd_y2 := hy.below hb2
    have hB2 := xB (x0 g w (Nat.le_of_lt h.lt)) hb2
    clear zg_a zg_b
    obtain ⟨zg_a, zg_b, lg2⟩ := rcell f_g2
    go_wp2_with fail
    refine (c2 _).mono ?_
    rintro e w2 ⟨rfl, rfl⟩
    go_wp2
    exact ⟨rfl, rfl, hB2⟩
  | ok p =>
    obtain ⟨N, nx⟩ := p
    rw [hr] at c1
    have hl := hle h.le hr
    have hn64 := gU_lt hb hr
    clear hr hle
    simp only
    by_cases hN : N ≤ most
    · rw [if_pos hN]
      have dn : decide ((N : Int) ≤ (most : Int)) = true := by simp; omega
      have c2 := need_yes
      unfold RP
      simp only
      have lgw : g < w.heap.size := h.lt
      go_enter Tryz.func66, Tryz.ntmps66
      obtain ⟨zg_a, zg_b, lg0⟩ := rcell hg
      go_wp2_with fail
      refine Abs.wp_region_abs (Abs.cls0 _) [0, 1, 2, 3, 4, 5, 6, 7, 8, 9, 10, 11, 12, 13, 14, 15, 16] (by kernel_rfl) (by kernel_rfl) (Below.refl _ _).drew ?_
      repeat (first | (refine Abs.step_pure rfl rfl (fun K hK => ?_); go_simp; (try go_bits); (first | refine hK _ _ ?_ | (simp only [↓IntWalk.iteOmega]; go_simp; (try go_bits); refine hK _ _ ?_)); clear hK K) | (refine Abs.step_load (v := ?_) rfl rfl (by kernel_rfl) rfl (fun w0 hI => ?_) (fun K hK => ?_); rotate_left; (· have z0 := (rcell (kp hI (hg))).1; go_simp; rfl); (simp only [Act.put, List.setIfInBounds_toArray, List.set_cons_zero, List.set_cons_succ]; refine hK _ _ ?_; clear hK K)) | (refine Abs.step_skip rfl rfl (fun K hK => ?_); (simp only [Act.put, List.setIfInBounds_toArray, List.set_cons_zero, List.set_cons_succ]; refine hK _ _ ?_; clear hK K)))
      (refine Abs.step_call_val (f := ?_) (args := ?_) (v := ?_) rfl rfl rfl rfl (fun w0 => ?_) (fun w0 hI => ?_) (fun K hK => ?_); rotate_left 3; (· go_simp; (constructor <;> rfl)); (· exact c1 _ (hy.below hI)); (simp only [Act.put, List.setIfInBounds_toArray, List.set_cons_zero, List.set_cons_succ]; refine hK _ _ ?_; clear hK K))
      repeat (first | (refine Abs.step_pure rfl rfl (fun K hK => ?_); go_simp; (try go_bits); (first | refine hK _ _ ?_ | (simp only [↓IntWalk.iteOmega]; go_simp; (try go_bits); refine hK _ _ ?_)); clear hK K) | (refine Abs.step_load (v := ?_) rfl rfl (by kernel_rfl) rfl (fun w0 hI => ?_) (fun K hK => ?_); rotate_left; (· have z0 := (rcell (kp hI (hg))).1; go_simp; rfl); (simp only [Act.put, List.setIfInBounds_toArray, List.set_cons_zero, List.set_cons_succ]; refine hK _ _ ?_; clear hK K)) | (refine Abs.step_skip rfl rfl (fun K hK => ?_); (simp only [Act.put, List.setIfInBounds_toArray, List.set_cons_zero, List.set_cons_succ]; refine hK _ _ ?_; clear hK K)))
      intro w2 hb2 hx0 hx1 hx2
      clear hx0 hx1 hx2
      simp only [Abs.T_setF, Abs.T_addA, Abs.T_push, Abs.T_start]
      have f_g2 := kp hb2 (hg)
      have rd_W2 := h.below hb2
      have rd_y2 := hy.below hb2
      have hB2 := xB (x0 g w (Nat.le_of_lt h.lt)) hb2
      clear zg_a zg_b
      obtain ⟨zg_a, zg_b, lg2⟩ := rcell f_g2
      go_wp2_with fail
      refine (c2 _ _).mono ?_
      rintro e w2 ⟨rfl, rfl⟩
      go_wp2_with fail
      refine (c2 _ _).mono ?_
      rintro e w2 ⟨rfl, rfl⟩
      go_wp2_with fail
      rw [r2_at0 (f_g2)]
      generalize hT : setRow _ g _ = w3
      obtain ⟨hx, f3⟩ := fin_x (b0 _) (f_g2) hT
      clear hT
      go_ret
      exact ⟨rfl, (hB2).trans hx, f3, (rd_y2).exc hx (f_g2) (by decide), hl.2⟩
    · rw [if_neg hN]
      have dn : decide ((N : Int) ≤ (most : Int)) = false := by simp; omega
      have c2 := need_yes
      have c3 := need_no 7
      unfold RP
      simp only
      have lgw : g < w.heap.size := h.lt
      go_enter Tryz.func66, Tryz.ntmps66
      obtain ⟨zg_a, zg_b, lg0⟩ := rcell hg
      go_wp2_with fail
      refine Abs.wp_region_abs (Abs.cls0 _) [0, 1, 2, 3, 4, 5, 6, 7, 8, 9, 10, 11, 12, 13, 14, 15, 16] (by kernel_rfl) (by kernel_rfl) (Below.refl _ _).drew ?_
      repeat (first | (refine Abs.step_pure rfl rfl (fun K hK => ?_); go_simp; (try go_bits); (first | refine hK _ _ ?_ | (simp only [↓IntWalk.iteOmega]; go_simp; (try go_bits); refine hK _ _ ?_)); clear hK K) | (refine Abs.step_load (v := ?_) rfl rfl (by kernel_rfl) rfl (fun w0 hI => ?_) (fun K hK => ?_); rotate_left; (· have z0 := (rcell (kp hI (hg))).1; go_simp; rfl); (simp only [Act.put, List.setIfInBounds_toArray, List.set_cons_zero, List.set_cons_succ]; refine hK _ _ ?_; clear hK K)) | (refine Abs.step_skip rfl rfl (fun K hK => ?_); (simp only [Act.put, List.setIfInBounds_toArray, List.set_cons_zero, List.set_cons_succ]; refine hK _ _ ?_; clear hK K)))
      (refine Abs.step_call_val (f := ?_) (args := ?_) (v := ?_) rfl rfl rfl rfl (fun w0 => ?_) (fun w0 hI => ?_) (fun K hK => ?_); rotate_left 3; (· go_simp; (constructor <;> rfl)); (· exact c1 _ (hy.below hI)); (simp only [Act.put, List.setIfInBounds_toArray, List.set_cons_zero, List.set_cons_succ]; refine hK _ _ ?_; clear hK K))
      repeat (first | (refine Abs.step_pure rfl rfl (fun K hK => ?_); go_simp; (try go_bits); (first | refine hK _ _ ?_ | (simp only [↓IntWalk.iteOmega]; go_simp; (try go_bits); refine hK _ _ ?_)); clear hK K) | (refine Abs.step_load (v := ?_) rfl rfl (by kernel_rfl) rfl (fun w0 hI => ?_) (fun K hK => ?_); rotate_left; (· have z0 := (rcell (kp hI (hg))).1; go_simp; rfl); (simp only [Act.put, List.setIfInBounds_toArray, List.set_cons_zero, List.set_cons_succ]; refine hK _ _ ?_; clear hK K)) | (refine Abs.step_skip rfl rfl (fun K hK => ?_); (simp only [Act.put, List.setIfInBounds_toArray, List.set_cons_zero, List.set_cons_succ]; refine hK _ _ ?_; clear hK K)))
      intro w2 hb2 hx0 hx1 hx2
      clear hx0 hx1 hx2
      simp only [Abs.T_setF, Abs.T_addA, Abs.T_push, Abs.T_start]
      have f_g2 := kp hb2 (hg)
      have rd_W2 := h.below hb2
      have rd_y2 := hy.below hb2
      have hB2 := xB (x0 g w (Nat.le_of_lt h.lt)) hb2
      clear zg_a zg_b
      obtain ⟨zg_a, zg_b, lg2⟩ := rcell f_g2
      go_wp2_with fail
      refine (c2 _ _).mono ?_
      rintro e w2 ⟨rfl, rfl⟩
      go_wp2_with fail
      refine (c3 _).mono ?_
      rintro e w2 ⟨rfl, rfl⟩
      go_wp2
      exact ⟨rfl, rfl, hB2⟩
set_option maxRecDepth 100000 in
set_option maxHeartbeats 2000000 in
include hb in
theorem r_signed (w : World) (h : Rdr g B c b at' w) :
    Calls Tryz.prog 86 #[.pointer (some ⟨g, 0, none⟩)] w (RP g B c b (fun (n : Int) => .int .i64 n) (pS b at') w) := by
  have c1 := fun w hy => vary_Get B c at' b hb h.le w hy
  have hle := @pS_gU b at'
  have hy := h.hy
  have hg := h.hg
  cases hr : pS b at' with
  | error x =>
    rw [hr] at c1
    have hx := pS_err hr
    have dx : (x == 0) = false := by simp; omega
    clear hr hle
    have c2 := need_no x
    unfold RP
    simp only
    have lgw : g < w.heap.size := h.lt
    go_enter Tryz.func86, Tryz.ntmps86
    obtain ⟨zg_a, zg_b, lg0⟩ := rcell hg
    go_wp2_with fail
    refine Abs.wp_region_abs (Abs.cls0 _) [0, 1, 2, 3, 4, 5, 6, 7, 8, 9, 10, 11, 12, 13, 14, 15, 16] (by kernel_rfl) (by kernel_rfl) (Below.refl _ _).drew ?_
    repeat (first | (refine Abs.step_pure rfl rfl (fun K hK => ?_); go_simp; (try go_bits); (first | refine hK _ _ ?_ | (simp only [↓IntWalk.iteOmega]; go_simp; (try go_bits); refine hK _ _ ?_)); clear hK K) | (refine Abs.step_load (v := ?_) rfl rfl (by kernel_rfl) rfl (fun w0 hI => ?_) (fun K hK => ?_); rotate_left; (· have z0 := (rcell (kp hI (hg))).1; go_simp; rfl); (simp only [Act.put, List.setIfInBounds_toArray, List.set_cons_zero, List.set_cons_succ]; refine hK _ _ ?_; clear hK K)) | (refine Abs.step_skip rfl rfl (fun K hK => ?_); (simp only [Act.put, List.setIfInBounds_toArray, List.set_cons_zero, List.set_cons_succ]; refine hK _ _ ?_; clear hK K)))
    (refine Abs.step_call_val (f := ?_) (args := ?_) (v := ?_) rfl rfl rfl rfl (fun w0 => ?_) (fun w0 hI => ?_) (fun K hK => ?_); rotate_left 3; (· go_simp; (constructor <;> rfl)); (· exact c1 _ (hy.below hI)); (simp only [Act.put, List.setIfInBounds_toArray, List.set_cons_zero, List.set_cons_succ]; refine hK _ _ ?_; clear hK K))
    repeat (first | (refine Abs.step_pure rfl rfl (fun K hK => ?_); go_simp; (try go_bits); (first | refine hK _ _ ?_ | (simp only [↓IntWalk.iteOmega]; go_simp; (try go_bits); refine hK _ _ ?_)); clear hK K) | (refine Abs.step_load (v := ?_) rfl rfl (by kernel_rfl) rfl (fun w0 hI => ?_) (fun K hK => ?_); rotate_left; (· have z0 := (rcell (kp hI (hg))).1; go_simp; rfl); (simp only [Act.put, List.setIfInBounds_toArray, List.set_cons_zero, List.set_cons_succ]; refine hK _ _ ?_; clear hK K)) | (refine Abs.step_skip rfl rfl (fun K hK => ?_); (simp only [Act.put, List.setIfInBounds_toArray, List.set_cons_zero, List.set_cons_succ]; refine hK _ _ ?_; clear hK K)))
    intro w2 hb2 hx0 hx1 hx2
    clear hx0 hx1 hx2
    simp only [Abs.T_setF, Abs.T_addA, Abs.T_push, Abs.T_start]
    have f_g2 := kp hb2 (hg)
    have rd_W2 := h.below hb2
    have rd_y2 := hy.below hb2
    have hB2 := xB (x0 g w (Nat.le_of_lt h.lt)) hb2
    clear zg_a zg_b
    obtain ⟨zg_a, zg_b, lg2⟩ := rcell f_g2
    go_wp2_with fail
    refine (c2 _).mono ?_
    rintro e w2 ⟨rfl, rfl⟩
    go_wp2
    exact ⟨rfl, rfl, hB2⟩
  | ok p =>
    obtain ⟨n, nx⟩ := p
    rw [hr] at c1
    obtain ⟨N, hN, -⟩ := hle hr
    have hl := gU_le h.le hN
    clear hr hle hN
    have c2 := need_yes
    unfold RP
    simp only
    have lgw : g < w.heap.size := h.lt
    go_enter Tryz.func86, Tryz.ntmps86
    obtain ⟨zg_a, zg_b, lg0⟩ := rcell hg
    go_wp2_with fail
    refine Abs.wp_region_abs (Abs.cls0 _) [0, 1, 2, 3, 4, 5, 6, 7, 8, 9, 10, 11, 12, 13, 14, 15, 16] (by kernel_rfl) (by kernel_rfl) (Below.refl _ _).drew ?_
    repeat (first | (refine Abs.step_pure rfl rfl (fun K hK => ?_); go_simp; (try go_bits); (first | refine hK _ _ ?_ | (simp only [↓IntWalk.iteOmega]; go_simp; (try go_bits); refine hK _ _ ?_)); clear hK K) | (refine Abs.step_load (v := ?_) rfl rfl (by kernel_rfl) rfl (fun w0 hI => ?_) (fun K hK => ?_); rotate_left; (· have z0 := (rcell (kp hI (hg))).1; go_simp; rfl); (simp only [Act.put, List.setIfInBounds_toArray, List.set_cons_zero, List.set_cons_succ]; refine hK _ _ ?_; clear hK K)) | (refine Abs.step_skip rfl rfl (fun K hK => ?_); (simp only [Act.put, List.setIfInBounds_toArray, List.set_cons_zero, List.set_cons_succ]; refine hK _ _ ?_; clear hK K)))
    (refine Abs.step_call_val (f := ?_) (args := ?_) (v := ?_) rfl rfl rfl rfl (fun w0 => ?_) (fun w0 hI => ?_) (fun K hK => ?_); rotate_left 3; (· go_simp; (constructor <;> rfl)); (· exact c1 _ (hy.below hI)); (simp only [Act.put, List.setIfInBounds_toArray, List.set_cons_zero, List.set_cons_succ]; refine hK _ _ ?_; clear hK K))
    repeat (first | (refine Abs.step_pure rfl rfl (fun K hK => ?_); go_simp; (try go_bits); (first | refine hK _ _ ?_ | (simp only [↓IntWalk.iteOmega]; go_simp; (try go_bits); refine hK _ _ ?_)); clear hK K) | (refine Abs.step_load (v := ?_) rfl rfl (by kernel_rfl) rfl (fun w0 hI => ?_) (fun K hK => ?_); rotate_left; (· have z0 := (rcell (kp hI (hg))).1; go_simp; rfl); (simp only [Act.put, List.setIfInBounds_toArray, List.set_cons_zero, List.set_cons_succ]; refine hK _ _ ?_; clear hK K)) | (refine Abs.step_skip rfl rfl (fun K hK => ?_); (simp only [Act.put, List.setIfInBounds_toArray, List.set_cons_zero, List.set_cons_succ]; refine hK _ _ ?_; clear hK K)))
    intro w2 hb2 hx0 hx1 hx2
    clear hx0 hx1 hx2
    simp only [Abs.T_setF, Abs.T_addA, Abs.T_push, Abs.T_start]
    have f_g2 := kp hb2 (hg)
    have rd_W2 := h.below hb2
    have rd_y2 := hy.below hb2
    have hB2 := xB (x0 g w (Nat.le_of_lt h.lt)) hb2
    clear zg_a zg_b
    obtain ⟨zg_a, zg_b, lg2⟩ := rcell f_g2
    go_wp2_with fail
    refine (c2 _ _).mono ?_
    rintro e w2 ⟨rfl, rfl⟩
    go_wp2_with fail
    rw [r2_at0 (f_g2)]
    generalize hT : setRow _ g _ = w3
    obtain ⟨hx, f3⟩ := fin_x (b0 _) (f_g2) hT
    clear hT
    go_ret
    exact ⟨rfl, (hB2).trans hx, f3, (rd_y2).exc hx (f_g2) (by decide), hl.2⟩
end
end Go.Proofs.YtmpfbkeamihjbaaGreat

namespace Go.Proofs.YtmpfbkeamihjbaaGreat
open Go.RowKit
attribute [local go_sem] Oper.semAt_some

section
variable (g : Nat) (B : Option Addr) (c : Nat) (b : List Int) (hb : Byt b) (at' : Nat)
set_option maxRecDepth 100000 in
set_option maxHeartbeats 4000000 in
include hb in
theorem r_kind (w : World) (h : Rdr g B c b at' w) :
    Calls Tryz.prog 65 #[.pointer (some ⟨g, 0, none⟩)] w (RP g B c b (fun (n : Int) => .int .i64 n) (pK b at') w) := by
  have hg := h.hg
  have hy := h.hy
  have hle := h.le
  unfold pK
  by_cases hlt : at' < b.length
  · have hby := hb _ (List.getElem_mem hlt)
    have hyw : ∀ W : World, YR W B c b → ∃ gy o, B = some ⟨gy, o, none⟩ := fun W h => by
      obtain ⟨gy, o, cur, e, -, -⟩ := h.mem (by omega)
      exact ⟨gy, o, e⟩
    obtain ⟨gy, o, cur, rfl, hgy, hc⟩ := hy.mem (by omega)
    have q1 := hc at' hlt
    rw [List.getElem?_eq_getElem hlt]
    simp only
    have HY : Hid (∀ W : World, W.heap[gy]? = some (.cells cur 5 (0, 0)) → YR W (some ⟨gy, o, none⟩) c b) := hide fun W hW => ⟨hy.cap, hy.top, fun _ => ⟨gy, o, cur, rfl, hW, hc⟩⟩
    have hne : gy ≠ g := by
      rintro rfl
      rw [hgy] at hg
      injection hg with hg
      injection hg with _ h2 _
      exact absurd h2 (by decide)
    have hmx : (at' : Int) + 1 ≤ 9223372036854775807 := by have := hy.cap; have := hy.top; omega
    have ecast : ((at' + 1 : Nat) : Int) = (at' : Int) + 1 := by omega
    have EC := hide ecast
    clear hc hy hyw ecast
    generalize b[at'] = k at *
    have dl : decide ((at' : Int) < (b.length : Int)) = true := by simp; omega
    have c1 := need_yes
    by_cases hk : 1 ≤ k ∧ k ≤ 4
    · rw [if_pos hk]
      obtain ⟨hk1, hk4⟩ := hk
      have d1 : decide (1 ≤ k) = true := decide_eq_true hk1
      have d4 : decide (k ≤ 4) = true := decide_eq_true hk4
      unfold RP
      simp only
      have lgw : g < w.heap.size := h.lt
      go_enter Tryz.func65, Tryz.ntmps65
      obtain ⟨zg_a, zg_b, lg0⟩ := rcell hg
      obtain ⟨zy_a, zy_b, ly0⟩ := rcell hgy
      go_wp2_with fail
      refine Abs.wp_region_tail (Abs.cls0 _) [0, 1, 2, 3, 4, 5, 6, 7, 8, 9, 10] 11 (by kernel_rfl) (by kernel_rfl) (Below.refl _ _).drew ?_
      repeat (first | (refine Abs.step_pure rfl rfl (fun K hK => ?_); go_simp; (try go_bits); (first | refine hK _ _ ?_ | (simp only [↓IntWalk.iteOmega]; go_simp; (try go_bits); refine hK _ _ ?_)); clear hK K) | (refine Abs.step_load (v := ?_) rfl rfl (by kernel_rfl) rfl (fun w0 hI => ?_) (fun K hK => ?_); rotate_left; (· have z0 := (rcell (kp hI (hg))).1; have z1 := (rcell (kp hI (hgy))).1; go_simp; rfl); (simp only [Act.put, List.setIfInBounds_toArray, List.set_cons_zero, List.set_cons_succ]; refine hK _ _ ?_; clear hK K)) | (refine Abs.step_skip rfl rfl (fun K hK => ?_); (simp only [Act.put, List.setIfInBounds_toArray, List.set_cons_zero, List.set_cons_succ]; refine hK _ _ ?_; clear hK K)))
      intro w2 hb2 hx0 hx1 hx2
      clear hx0 hx1 hx2
      simp only [Abs.T_setF, Abs.T_addA, Abs.T_push, Abs.T_start]
      have f_g2 := kp hb2 (hg)
      have f_y2 := kp hb2 (hgy)
      have hB2 := xB (x0 g w (Nat.le_of_lt h.lt)) hb2
      clear zg_a zg_b zy_a zy_b
      obtain ⟨zg_a, zg_b, lg2⟩ := rcell f_g2
      obtain ⟨zy_a, zy_b, ly2⟩ := rcell f_y2
      simp only [List.drop_succ_cons, List.drop_zero]
      go_wp2_with fail
      refine (c1 _ _).mono ?_
      rintro e w2 ⟨rfl, rfl⟩
      go_wp2_with fail
      refine Abs.wp_region_abs (Abs.cls0 _) [0, 1, 2, 3, 4, 5, 6, 7, 8, 9, 10, 11, 12] (by kernel_rfl) (by kernel_rfl) (Below.refl _ _).drew ?_
      repeat (first | (refine Abs.step_pure rfl rfl (fun K hK => ?_); go_simp; (try go_bits); (first | refine hK _ _ ?_ | (simp only [↓IntWalk.iteOmega]; go_simp; (try go_bits); refine hK _ _ ?_)); clear hK K) | (refine Abs.step_load (v := ?_) rfl rfl (by kernel_rfl) rfl (fun w0 hI => ?_) (fun K hK => ?_); rotate_left; (· have z0 := (rcell (kp hI (f_g2))).1; have z1 := (rcell (kp hI (f_y2))).1; go_simp; rfl); (simp only [Act.put, List.setIfInBounds_toArray, List.set_cons_zero, List.set_cons_succ]; refine hK _ _ ?_; clear hK K)) | (refine Abs.step_skip rfl rfl (fun K hK => ?_); (simp only [Act.put, List.setIfInBounds_toArray, List.set_cons_zero, List.set_cons_succ]; refine hK _ _ ?_; clear hK K)))
      intro w4 hb4 hx0 hx1 hx2
      clear hx0 hx1 hx2
      simp only [Abs.T_setF, Abs.T_addA, Abs.T_push, Abs.T_start]
      have f_g4 := kp hb4 (f_g2)
      have f_y4 := kp hb4 (f_y2)
      have hB4 := xB hB2 hb4
      clear zg_a zg_b zy_a zy_b
      obtain ⟨zg_a, zg_b, lg4⟩ := rcell f_g4
      obtain ⟨zy_a, zy_b, ly4⟩ := rcell f_y4
      go_wp2_with fail
      refine (c1 _ _).mono ?_
      rintro e w2 ⟨rfl, rfl⟩
      go_wp2_with fail
      rw [r2_at0 (f_g4)]
      generalize hT : setRow _ g _ = w3
      obtain ⟨hx, f3⟩ := fin_x (b0 _) (f_g4) hT
      clear hT
      go_ret
      exact ⟨rfl, (hB4).trans hx, by rw [EC.out]; exact f3, HY.out _ (kx hx (f_y4) hne), by omega⟩
    · rw [if_neg hk]
      have c3 := need_no 7
      unfold RP
      simp only
      have lgw : g < w.heap.size := h.lt
      go_enter Tryz.func65, Tryz.ntmps65
      obtain ⟨zg_a, zg_b, lg0⟩ := rcell hg
      obtain ⟨zy_a, zy_b, ly0⟩ := rcell hgy
      go_wp2_with fail
      refine Abs.wp_region_tail (Abs.cls0 _) [0, 1, 2, 3, 4, 5, 6, 7, 8, 9, 10] 11 (by kernel_rfl) (by kernel_rfl) (Below.refl _ _).drew ?_
      repeat (first | (refine Abs.step_pure rfl rfl (fun K hK => ?_); go_simp; (try go_bits); (first | refine hK _ _ ?_ | (simp only [↓IntWalk.iteOmega]; go_simp; (try go_bits); refine hK _ _ ?_)); clear hK K) | (refine Abs.step_load (v := ?_) rfl rfl (by kernel_rfl) rfl (fun w0 hI => ?_) (fun K hK => ?_); rotate_left; (· have z0 := (rcell (kp hI (hg))).1; have z1 := (rcell (kp hI (hgy))).1; go_simp; rfl); (simp only [Act.put, List.setIfInBounds_toArray, List.set_cons_zero, List.set_cons_succ]; refine hK _ _ ?_; clear hK K)) | (refine Abs.step_skip rfl rfl (fun K hK => ?_); (simp only [Act.put, List.setIfInBounds_toArray, List.set_cons_zero, List.set_cons_succ]; refine hK _ _ ?_; clear hK K)))
      intro w2 hb2 hx0 hx1 hx2
      clear hx0 hx1 hx2
      simp only [Abs.T_setF, Abs.T_addA, Abs.T_push, Abs.T_start]
      have f_g2 := kp hb2 (hg)
      have f_y2 := kp hb2 (hgy)
      have hB2 := xB (x0 g w (Nat.le_of_lt h.lt)) hb2
      clear zg_a zg_b zy_a zy_b
      obtain ⟨zg_a, zg_b, lg2⟩ := rcell f_g2
      obtain ⟨zy_a, zy_b, ly2⟩ := rcell f_y2
      simp only [List.drop_succ_cons, List.drop_zero]
      go_wp2_with fail
      refine (c1 _ _).mono ?_
      rintro e w2 ⟨rfl, rfl⟩
      go_wp2_with fail
      refine Abs.wp_region_abs (Abs.cls0 _) [0, 1, 2, 3, 4, 5, 6, 7, 8, 9, 10, 11, 12] (by kernel_rfl) (by kernel_rfl) (Below.refl _ _).drew ?_
      repeat (first | (refine Abs.step_pure rfl rfl (fun K hK => ?_); go_simp; (try go_bits); (first | refine hK _ _ ?_ | (simp only [↓IntWalk.iteOmega]; go_simp; (try go_bits); refine hK _ _ ?_)); clear hK K) | (refine Abs.step_load (v := ?_) rfl rfl (by kernel_rfl) rfl (fun w0 hI => ?_) (fun K hK => ?_); rotate_left; (· have z0 := (rcell (kp hI (f_g2))).1; have z1 := (rcell (kp hI (f_y2))).1; go_simp; rfl); (simp only [Act.put, List.setIfInBounds_toArray, List.set_cons_zero, List.set_cons_succ]; refine hK _ _ ?_; clear hK K)) | (refine Abs.step_skip rfl rfl (fun K hK => ?_); (simp only [Act.put, List.setIfInBounds_toArray, List.set_cons_zero, List.set_cons_succ]; refine hK _ _ ?_; clear hK K)))
      intro w4 hb4 hx0 hx1 hx2
      clear hx0 hx1 hx2
      simp only [Abs.T_setF, Abs.T_addA, Abs.T_push, Abs.T_start]
      have f_g4 := kp hb4 (f_g2)
      have f_y4 := kp hb4 (f_y2)
      have hB4 := xB hB2 hb4
      clear zg_a zg_b zy_a zy_b
      obtain ⟨zg_a, zg_b, lg4⟩ := rcell f_g4
      obtain ⟨zy_a, zy_b, ly4⟩ := rcell f_y4
      by_cases hk1 : 1 ≤ k
      · have d1 : decide (1 ≤ k) = true := decide_eq_true hk1
        have d4 : decide (k ≤ 4) = false := decide_eq_false (by omega)
        go_wp2_with fail
        refine (c3 _).mono ?_
        rintro e w2 ⟨rfl, rfl⟩
        go_wp2
        exact ⟨rfl, rfl, hB4⟩
      · have d1 : decide (1 ≤ k) = false := decide_eq_false hk1
        go_wp2_with fail
        refine (c3 _).mono ?_
        rintro e w2 ⟨rfl, rfl⟩
        go_wp2
        exact ⟨rfl, rfl, hB4⟩
  · rw [List.getElem?_eq_none (by omega)]
    simp only
    have dl : decide ((at' : Int) < (b.length : Int)) = false := by simp; omega
    have c3 := need_no 6
    unfold RP
    simp only
    have lgw : g < w.heap.size := h.lt
    go_enter Tryz.func65, Tryz.ntmps65
    obtain ⟨zg_a, zg_b, lg0⟩ := rcell hg
    go_wp2_with fail
    refine Abs.wp_region_tail (Abs.cls0 _) [0, 1, 2, 3, 4, 5, 6, 7, 8, 9, 10] 11 (by kernel_rfl) (by kernel_rfl) (Below.refl _ _).drew ?_
    repeat (first | (refine Abs.step_pure rfl rfl (fun K hK => ?_); go_simp; (try go_bits); (first | refine hK _ _ ?_ | (simp only [↓IntWalk.iteOmega]; go_simp; (try go_bits); refine hK _ _ ?_)); clear hK K) | (refine Abs.step_load (v := ?_) rfl rfl (by kernel_rfl) rfl (fun w0 hI => ?_) (fun K hK => ?_); rotate_left; (· have z0 := (rcell (kp hI (hg))).1; go_simp; rfl); (simp only [Act.put, List.setIfInBounds_toArray, List.set_cons_zero, List.set_cons_succ]; refine hK _ _ ?_; clear hK K)) | (refine Abs.step_skip rfl rfl (fun K hK => ?_); (simp only [Act.put, List.setIfInBounds_toArray, List.set_cons_zero, List.set_cons_succ]; refine hK _ _ ?_; clear hK K)))
    intro w2 hb2 hx0 hx1 hx2
    clear hx0 hx1 hx2
    simp only [Abs.T_setF, Abs.T_addA, Abs.T_push, Abs.T_start]
    have f_g2 := kp hb2 (hg)
    have hB2 := xB (x0 g w (Nat.le_of_lt h.lt)) hb2
    clear zg_a zg_b
    obtain ⟨zg_a, zg_b, lg2⟩ := rcell f_g2
    simp only [List.drop_succ_cons, List.drop_zero]
    go_wp2_with fail
    refine (c3 _).mono ?_
    rintro e w2 ⟨rfl, rfl⟩
    go_wp2
    exact ⟨rfl, rfl, hB2⟩
end
end Go.Proofs.YtmpfbkeamihjbaaGreat

namespace Go.Proofs.YtmpfbkeamihjbaaGreat
open Go.RowKit
attribute [local go_sem] Oper.semAt_some

theorem Rdr.exc {g k : Nat} {B : Option Addr} {c : Nat} {b : List Int} {at' : Nat} {w w1 : World} {cs : Array Value} {t : TypeId} (h : Rdr g B c b at' w) (hx : Exc k w w1) (hk : w.heap[k]? = some (.cells cs t (0, 0))) (ht : t ≠ 77 ∧ t ≠ 5) : Rdr g B c b at' w1 := by
  refine ⟨kx hx h.hg ?_, h.hy.exc hx hk ht.2, h.le⟩
  rintro rfl
  have h1 := h.hg
  rw [hk] at h1
  injection h1 with h1
  injection h1 with _ h2 _
  exact ht.1 h2

theorem r4_at0 {w : World} {g : Nat} {a0 a1 a2 a3 : Value} {t : TypeId} {f : Nat × Nat} (h : w.heap[g]? = some (.cells #[a0, a1, a2, a3] t f)) (v : Value) : w.setCell ⟨g, 0, none⟩ v = setRow w g #[v, a1, a2, a3] := setRow_of_setCell h v rfl
theorem r4_at1 {w : World} {g : Nat} {a0 a1 a2 a3 : Value} {t : TypeId} {f : Nat × Nat} (h : w.heap[g]? = some (.cells #[a0, a1, a2, a3] t f)) (v : Value) : w.setCell ⟨g, 1, none⟩ v = setRow w g #[a0, v, a2, a3] := setRow_of_setCell h v rfl
theorem r4_at2 {w : World} {g : Nat} {a0 a1 a2 a3 : Value} {t : TypeId} {f : Nat × Nat} (h : w.heap[g]? = some (.cells #[a0, a1, a2, a3] t f)) (v : Value) : w.setCell ⟨g, 2, none⟩ v = setRow w g #[a0, a1, v, a3] := setRow_of_setCell h v rfl
theorem r4_at3 {w : World} {g : Nat} {a0 a1 a2 a3 : Value} {t : TypeId} {f : Nat × Nat} (h : w.heap[g]? = some (.cells #[a0, a1, a2, a3] t f)) (v : Value) : w.setCell ⟨g, 3, none⟩ v = setRow w g #[a0, a1, a2, v] := setRow_of_setCell h v rfl

def l4V (q : L4) : Value := .agg #[.int .i64 q.A, .int .i64 q.R, .int .i64 q.N, .int .i64 q.D]
section
variable (g : Nat) (B : Option Addr) (c : Nat) (b : List Int) (hb : Byt b) (at' : Nat)
set_option maxRecDepth 100000 in
set_option maxHeartbeats 4000000 in
include hb in
theorem r_line1 (w : World) (h : Rdr g B c b at' w) : Calls Tryz.prog 68 #[.pointer (some ⟨g, 0, none⟩), .int .i64 1] w (RP g B c b l4V (pL b 1 at') w) := by
  have lgw : g < w.heap.size := h.lt
  go_enter Tryz.func68, Tryz.ntmps68
  go_wp2_with fail
  refine (r_signed g B c b hb at' _ (h.below (bA (bA (b0 _) (.cells #[.int .i64 0, .int .i64 0, .int .i64 0, .int .i64 0] 24)) (.cells #[.int .i64 0, .int .i64 0, .int .i64 0, .int .i64 1] 24)))).mono ?_
  rintro e w1 hp1
  cases e1 : pS b at' with
  | error x =>
    rw [e1] at hp1
    obtain ⟨rfl, hx1⟩ := hp1
    have hres : Hid (pL b 1 at' = .error x) := hide (by simp [pL, pLN, pLA, e1])
    clear e1
    go_wp2
    exact ⟨rfl, by unfold RP; rw [hres.out]; exact ⟨rfl, (xX (xA (xA (x0 g w (Nat.le_of_lt h.lt)) (.cells #[.int .i64 0, .int .i64 0, .int .i64 0, .int .i64 0] 24)) (.cells #[.int .i64 0, .int .i64 0, .int .i64 0, .int .i64 1] 24)) hx1 (by omega))⟩⟩
  | ok p =>
    obtain ⟨y1, n1⟩ := p
    rw [e1] at hp1
    obtain ⟨rfl, hx1, rn_W1⟩ := hp1
    have f_o1 := kx hx1 (ka (na w #[.int .i64 0, .int .i64 0, .int .i64 0, .int .i64 0] 24) (.cells #[.int .i64 0, .int .i64 0, .int .i64 0, .int .i64 1] 24)) (by omega)
    have f_l1 := kx hx1 (na1 w (.cells #[.int .i64 0, .int .i64 0, .int .i64 0, .int .i64 0] 24) #[.int .i64 0, .int .i64 0, .int .i64 0, .int .i64 1] 24) (by omega)
    have hB1 := xX (xA (xA (x0 g w (Nat.le_of_lt h.lt)) (.cells #[.int .i64 0, .int .i64 0, .int .i64 0, .int .i64 0] 24)) (.cells #[.int .i64 0, .int .i64 0, .int .i64 0, .int .i64 1] 24)) hx1 (by omega)
    obtain ⟨zo_a, zo_b, lo1⟩ := rcell f_o1
    obtain ⟨zl_a, zl_b, ll1⟩ := rcell f_l1
    have E1 := hide e1
    clear e1
    go_wp2_with fail
    rw [r4_at0 f_l1]
    generalize hT2 : setRow _ _ _ = w2
    obtain ⟨hx2, f_l2⟩ := fin_x (b0 _) f_l1 hT2
    clear hT2
    have f_o2 := kx hx2 (f_o1) (by omega)
    have rd_W2 := rn_W1.exc hx2 (f_l1) (by decide)
    have hB2 := xX hB1 hx2 (by omega)
    clear zl_a zl_b zo_a zo_b
    obtain ⟨zo_a, zo_b, lo2⟩ := rcell f_o2
    obtain ⟨zl_a, zl_b, ll2⟩ := rcell f_l2
    have hres : Hid (pL b 1 at' = .ok (⟨y1, 0, 0, 1⟩, n1)) := hide (by simp [pL, pLN, pLA, E1.out])
    go_wp2_with fail
    rw [row4 f_o2]
    generalize hT3 : setRow _ _ _ = w3
    obtain ⟨hx3, f_o3⟩ := fin_x (b0 _) f_o2 hT3
    clear hT3
    have f_l3 := kx hx3 (f_l2) (by omega)
    have rd_W3 := rd_W2.exc hx3 (f_o2) (by decide)
    have hB3 := xX hB2 hx3 (by omega)
    clear zl_a zl_b zo_a zo_b
    obtain ⟨zl_a, zl_b, ll3⟩ := rcell f_l3
    obtain ⟨zo_a, zo_b, lo3⟩ := rcell f_o3
    have zE := (rcell (f_o3)).1
    have zL := (rcell (f_o3)).2.2
    refine bodyPost_ret (by simp [results, Tryz.results68, go_sem, zE, zL]; try rfl) rfl ?_
    unfold RP
    rw [hres.out]
    exact ⟨rfl, hB3, rd_W3⟩
set_option maxRecDepth 100000 in
set_option maxHeartbeats 4000000 in
include hb in
theorem r_line2 (w : World) (h : Rdr g B c b at' w) : Calls Tryz.prog 68 #[.pointer (some ⟨g, 0, none⟩), .int .i64 2] w (RP g B c b l4V (pL b 2 at') w) := by
  have lgw : g < w.heap.size := h.lt
  go_enter Tryz.func68, Tryz.ntmps68
  go_wp2_with fail
  refine (r_signed g B c b hb at' _ (h.below (bA (bA (b0 _) (.cells #[.int .i64 0, .int .i64 0, .int .i64 0, .int .i64 0] 24)) (.cells #[.int .i64 0, .int .i64 0, .int .i64 0, .int .i64 1] 24)))).mono ?_
  rintro e w1 hp1
  cases e1 : pS b at' with
  | error x =>
    rw [e1] at hp1
    obtain ⟨rfl, hx1⟩ := hp1
    have hres : Hid (pL b 2 at' = .error x) := hide (by simp [pL, pLN, pLA, e1])
    clear e1
    go_wp2
    exact ⟨rfl, by unfold RP; rw [hres.out]; exact ⟨rfl, (xX (xA (xA (x0 g w (Nat.le_of_lt h.lt)) (.cells #[.int .i64 0, .int .i64 0, .int .i64 0, .int .i64 0] 24)) (.cells #[.int .i64 0, .int .i64 0, .int .i64 0, .int .i64 1] 24)) hx1 (by omega))⟩⟩
  | ok p =>
    obtain ⟨y1, n1⟩ := p
    rw [e1] at hp1
    obtain ⟨rfl, hx1, rn_W1⟩ := hp1
    have f_o1 := kx hx1 (ka (na w #[.int .i64 0, .int .i64 0, .int .i64 0, .int .i64 0] 24) (.cells #[.int .i64 0, .int .i64 0, .int .i64 0, .int .i64 1] 24)) (by omega)
    have f_l1 := kx hx1 (na1 w (.cells #[.int .i64 0, .int .i64 0, .int .i64 0, .int .i64 0] 24) #[.int .i64 0, .int .i64 0, .int .i64 0, .int .i64 1] 24) (by omega)
    have hB1 := xX (xA (xA (x0 g w (Nat.le_of_lt h.lt)) (.cells #[.int .i64 0, .int .i64 0, .int .i64 0, .int .i64 0] 24)) (.cells #[.int .i64 0, .int .i64 0, .int .i64 0, .int .i64 1] 24)) hx1 (by omega)
    obtain ⟨zo_a, zo_b, lo1⟩ := rcell f_o1
    obtain ⟨zl_a, zl_b, ll1⟩ := rcell f_l1
    have E1 := hide e1
    clear e1
    go_wp2_with fail
    rw [r4_at2 f_l1]
    generalize hT2 : setRow _ _ _ = w2
    obtain ⟨hx2, f_l2⟩ := fin_x (b0 _) f_l1 hT2
    clear hT2
    have f_o2 := kx hx2 (f_o1) (by omega)
    have rd_W2 := rn_W1.exc hx2 (f_l1) (by decide)
    have hB2 := xX hB1 hx2 (by omega)
    clear zl_a zl_b zo_a zo_b
    obtain ⟨zo_a, zo_b, lo2⟩ := rcell f_o2
    obtain ⟨zl_a, zl_b, ll2⟩ := rcell f_l2
    go_wp2_with fail
    refine (r_plain g B c b hb n1 281474976710656 (by decide) _ rd_W2).mono ?_
    rintro e w3 hp3
    cases e2 : pU b 281474976710656 n1 with
    | error x =>
      rw [e2] at hp3
      obtain ⟨rfl, hx3⟩ := hp3
      have hres : Hid (pL b 2 at' = .error x) := hide (by simp [pL, pLN, pLA, E1.out, e2])
      clear e2
      go_wp2
      exact ⟨rfl, by unfold RP; rw [hres.out]; exact ⟨rfl, (xX hB2 hx3 (by omega))⟩⟩
    | ok p =>
      obtain ⟨y2, n2⟩ := p
      rw [e2] at hp3
      obtain ⟨rfl, hx3, rn_W3⟩ := hp3
      have f_o3 := kx hx3 (f_o2) (by omega)
      have f_l3 := kx hx3 (f_l2) (by omega)
      have hB3 := xX hB2 hx3 (by omega)
      clear zl_a zl_b zo_a zo_b
      obtain ⟨zo_a, zo_b, lo3⟩ := rcell f_o3
      obtain ⟨zl_a, zl_b, ll3⟩ := rcell f_l3
      have E2 := hide e2
      clear e2
      go_wp2_with fail
      rw [r4_at3 f_l3]
      generalize hT4 : setRow _ _ _ = w4
      obtain ⟨hx4, f_l4⟩ := fin_x (b0 _) f_l3 hT4
      clear hT4
      have f_o4 := kx hx4 (f_o3) (by omega)
      have rd_W4 := rn_W3.exc hx4 (f_l3) (by decide)
      have hB4 := xX hB3 hx4 (by omega)
      clear zl_a zl_b zo_a zo_b
      obtain ⟨zo_a, zo_b, lo4⟩ := rcell f_o4
      obtain ⟨zl_a, zl_b, ll4⟩ := rcell f_l4
      go_wp2_with fail
      refine (r_signed g B c b hb n2 _ rd_W4).mono ?_
      rintro e w5 hp5
      cases e3 : pS b n2 with
      | error x =>
        rw [e3] at hp5
        obtain ⟨rfl, hx5⟩ := hp5
        have hres : Hid (pL b 2 at' = .error x) := hide (by simp [pL, pLN, pLA, E1.out, E2.out, e3])
        clear e3
        go_wp2
        exact ⟨rfl, by unfold RP; rw [hres.out]; exact ⟨rfl, (xX hB4 hx5 (by omega))⟩⟩
      | ok p =>
        obtain ⟨y3, n3⟩ := p
        rw [e3] at hp5
        obtain ⟨rfl, hx5, rn_W5⟩ := hp5
        have f_o5 := kx hx5 (f_o4) (by omega)
        have f_l5 := kx hx5 (f_l4) (by omega)
        have hB5 := xX hB4 hx5 (by omega)
        clear zl_a zl_b zo_a zo_b
        obtain ⟨zo_a, zo_b, lo5⟩ := rcell f_o5
        obtain ⟨zl_a, zl_b, ll5⟩ := rcell f_l5
        have E3 := hide e3
        clear e3
        go_wp2_with fail
        rw [r4_at0 f_l5]
        generalize hT6 : setRow _ _ _ = w6
        obtain ⟨hx6, f_l6⟩ := fin_x (b0 _) f_l5 hT6
        clear hT6
        have f_o6 := kx hx6 (f_o5) (by omega)
        have rd_W6 := rn_W5.exc hx6 (f_l5) (by decide)
        have hB6 := xX hB5 hx6 (by omega)
        clear zl_a zl_b zo_a zo_b
        obtain ⟨zo_a, zo_b, lo6⟩ := rcell f_o6
        obtain ⟨zl_a, zl_b, ll6⟩ := rcell f_l6
        have hres : Hid (pL b 2 at' = .ok (⟨y3, 0, y1, y2⟩, n3)) := hide (by simp [pL, pLN, pLA, E1.out, E2.out, E3.out])
        go_wp2_with fail
        rw [row4 f_o6]
        generalize hT7 : setRow _ _ _ = w7
        obtain ⟨hx7, f_o7⟩ := fin_x (b0 _) f_o6 hT7
        clear hT7
        have f_l7 := kx hx7 (f_l6) (by omega)
        have rd_W7 := rd_W6.exc hx7 (f_o6) (by decide)
        have hB7 := xX hB6 hx7 (by omega)
        clear zl_a zl_b zo_a zo_b
        obtain ⟨zl_a, zl_b, ll7⟩ := rcell f_l7
        obtain ⟨zo_a, zo_b, lo7⟩ := rcell f_o7
        have zE := (rcell (f_o7)).1
        have zL := (rcell (f_o7)).2.2
        refine bodyPost_ret (by simp [results, Tryz.results68, go_sem, zE, zL]; try rfl) rfl ?_
        unfold RP
        rw [hres.out]
        exact ⟨rfl, hB7, rd_W7⟩
set_option maxRecDepth 100000 in
set_option maxHeartbeats 4000000 in
include hb in
theorem r_line3 (w : World) (h : Rdr g B c b at' w) : Calls Tryz.prog 68 #[.pointer (some ⟨g, 0, none⟩), .int .i64 3] w (RP g B c b l4V (pL b 3 at') w) := by
  have lgw : g < w.heap.size := h.lt
  go_enter Tryz.func68, Tryz.ntmps68
  go_wp2_with fail
  refine (r_plain g B c b hb at' 281474976710656 (by decide) _ (h.below (bA (bA (b0 _) (.cells #[.int .i64 0, .int .i64 0, .int .i64 0, .int .i64 0] 24)) (.cells #[.int .i64 0, .int .i64 0, .int .i64 0, .int .i64 1] 24)))).mono ?_
  rintro e w1 hp1
  cases e1 : pU b 281474976710656 at' with
  | error x =>
    rw [e1] at hp1
    obtain ⟨rfl, hx1⟩ := hp1
    have hres : Hid (pL b 3 at' = .error x) := hide (by simp [pL, pLN, pLA, e1])
    clear e1
    go_wp2
    exact ⟨rfl, by unfold RP; rw [hres.out]; exact ⟨rfl, (xX (xA (xA (x0 g w (Nat.le_of_lt h.lt)) (.cells #[.int .i64 0, .int .i64 0, .int .i64 0, .int .i64 0] 24)) (.cells #[.int .i64 0, .int .i64 0, .int .i64 0, .int .i64 1] 24)) hx1 (by omega))⟩⟩
  | ok p =>
    obtain ⟨y1, n1⟩ := p
    rw [e1] at hp1
    obtain ⟨rfl, hx1, rn_W1⟩ := hp1
    have f_o1 := kx hx1 (ka (na w #[.int .i64 0, .int .i64 0, .int .i64 0, .int .i64 0] 24) (.cells #[.int .i64 0, .int .i64 0, .int .i64 0, .int .i64 1] 24)) (by omega)
    have f_l1 := kx hx1 (na1 w (.cells #[.int .i64 0, .int .i64 0, .int .i64 0, .int .i64 0] 24) #[.int .i64 0, .int .i64 0, .int .i64 0, .int .i64 1] 24) (by omega)
    have hB1 := xX (xA (xA (x0 g w (Nat.le_of_lt h.lt)) (.cells #[.int .i64 0, .int .i64 0, .int .i64 0, .int .i64 0] 24)) (.cells #[.int .i64 0, .int .i64 0, .int .i64 0, .int .i64 1] 24)) hx1 (by omega)
    obtain ⟨zo_a, zo_b, lo1⟩ := rcell f_o1
    obtain ⟨zl_a, zl_b, ll1⟩ := rcell f_l1
    have E1 := hide e1
    clear e1
    go_wp2_with fail
    rw [r4_at1 f_l1]
    generalize hT2 : setRow _ _ _ = w2
    obtain ⟨hx2, f_l2⟩ := fin_x (b0 _) f_l1 hT2
    clear hT2
    have f_o2 := kx hx2 (f_o1) (by omega)
    have rd_W2 := rn_W1.exc hx2 (f_l1) (by decide)
    have hB2 := xX hB1 hx2 (by omega)
    clear zl_a zl_b zo_a zo_b
    obtain ⟨zo_a, zo_b, lo2⟩ := rcell f_o2
    obtain ⟨zl_a, zl_b, ll2⟩ := rcell f_l2
    go_wp2_with fail
    refine (r_signed g B c b hb n1 _ rd_W2).mono ?_
    rintro e w3 hp3
    cases e2 : pS b n1 with
    | error x =>
      rw [e2] at hp3
      obtain ⟨rfl, hx3⟩ := hp3
      have hres : Hid (pL b 3 at' = .error x) := hide (by simp [pL, pLN, pLA, E1.out, e2])
      clear e2
      go_wp2
      exact ⟨rfl, by unfold RP; rw [hres.out]; exact ⟨rfl, (xX hB2 hx3 (by omega))⟩⟩
    | ok p =>
      obtain ⟨y2, n2⟩ := p
      rw [e2] at hp3
      obtain ⟨rfl, hx3, rn_W3⟩ := hp3
      have f_o3 := kx hx3 (f_o2) (by omega)
      have f_l3 := kx hx3 (f_l2) (by omega)
      have hB3 := xX hB2 hx3 (by omega)
      clear zl_a zl_b zo_a zo_b
      obtain ⟨zo_a, zo_b, lo3⟩ := rcell f_o3
      obtain ⟨zl_a, zl_b, ll3⟩ := rcell f_l3
      have E2 := hide e2
      clear e2
      go_wp2_with fail
      rw [r4_at2 f_l3]
      generalize hT4 : setRow _ _ _ = w4
      obtain ⟨hx4, f_l4⟩ := fin_x (b0 _) f_l3 hT4
      clear hT4
      have f_o4 := kx hx4 (f_o3) (by omega)
      have rd_W4 := rn_W3.exc hx4 (f_l3) (by decide)
      have hB4 := xX hB3 hx4 (by omega)
      clear zl_a zl_b zo_a zo_b
      obtain ⟨zo_a, zo_b, lo4⟩ := rcell f_o4
      obtain ⟨zl_a, zl_b, ll4⟩ := rcell f_l4
      go_wp2_with fail
      refine (r_plain g B c b hb n2 281474976710656 (by decide) _ rd_W4).mono ?_
      rintro e w5 hp5
      cases e3 : pU b 281474976710656 n2 with
      | error x =>
        rw [e3] at hp5
        obtain ⟨rfl, hx5⟩ := hp5
        have hres : Hid (pL b 3 at' = .error x) := hide (by simp [pL, pLN, pLA, E1.out, E2.out, e3])
        clear e3
        go_wp2
        exact ⟨rfl, by unfold RP; rw [hres.out]; exact ⟨rfl, (xX hB4 hx5 (by omega))⟩⟩
      | ok p =>
        obtain ⟨y3, n3⟩ := p
        rw [e3] at hp5
        obtain ⟨rfl, hx5, rn_W5⟩ := hp5
        have f_o5 := kx hx5 (f_o4) (by omega)
        have f_l5 := kx hx5 (f_l4) (by omega)
        have hB5 := xX hB4 hx5 (by omega)
        clear zl_a zl_b zo_a zo_b
        obtain ⟨zo_a, zo_b, lo5⟩ := rcell f_o5
        obtain ⟨zl_a, zl_b, ll5⟩ := rcell f_l5
        have E3 := hide e3
        clear e3
        go_wp2_with fail
        rw [r4_at3 f_l5]
        generalize hT6 : setRow _ _ _ = w6
        obtain ⟨hx6, f_l6⟩ := fin_x (b0 _) f_l5 hT6
        clear hT6
        have f_o6 := kx hx6 (f_o5) (by omega)
        have rd_W6 := rn_W5.exc hx6 (f_l5) (by decide)
        have hB6 := xX hB5 hx6 (by omega)
        clear zl_a zl_b zo_a zo_b
        obtain ⟨zo_a, zo_b, lo6⟩ := rcell f_o6
        obtain ⟨zl_a, zl_b, ll6⟩ := rcell f_l6
        go_wp2_with fail
        refine (r_signed g B c b hb n3 _ rd_W6).mono ?_
        rintro e w7 hp7
        cases e4 : pS b n3 with
        | error x =>
          rw [e4] at hp7
          obtain ⟨rfl, hx7⟩ := hp7
          have hres : Hid (pL b 3 at' = .error x) := hide (by simp [pL, pLN, pLA, E1.out, E2.out, E3.out, e4])
          clear e4
          go_wp2
          exact ⟨rfl, by unfold RP; rw [hres.out]; exact ⟨rfl, (xX hB6 hx7 (by omega))⟩⟩
        | ok p =>
          obtain ⟨y4, n4⟩ := p
          rw [e4] at hp7
          obtain ⟨rfl, hx7, rn_W7⟩ := hp7
          have f_o7 := kx hx7 (f_o6) (by omega)
          have f_l7 := kx hx7 (f_l6) (by omega)
          have hB7 := xX hB6 hx7 (by omega)
          clear zl_a zl_b zo_a zo_b
          obtain ⟨zo_a, zo_b, lo7⟩ := rcell f_o7
          obtain ⟨zl_a, zl_b, ll7⟩ := rcell f_l7
          have E4 := hide e4
          clear e4
          go_wp2_with fail
          rw [r4_at0 f_l7]
          generalize hT8 : setRow _ _ _ = w8
          obtain ⟨hx8, f_l8⟩ := fin_x (b0 _) f_l7 hT8
          clear hT8
          have f_o8 := kx hx8 (f_o7) (by omega)
          have rd_W8 := rn_W7.exc hx8 (f_l7) (by decide)
          have hB8 := xX hB7 hx8 (by omega)
          clear zl_a zl_b zo_a zo_b
          obtain ⟨zo_a, zo_b, lo8⟩ := rcell f_o8
          obtain ⟨zl_a, zl_b, ll8⟩ := rcell f_l8
          have hres : Hid (pL b 3 at' = .ok (⟨y4, y1, y2, y3⟩, n4)) := hide (by simp [pL, pLN, pLA, E1.out, E2.out, E3.out, E4.out])
          go_wp2_with fail
          rw [row4 f_o8]
          generalize hT9 : setRow _ _ _ = w9
          obtain ⟨hx9, f_o9⟩ := fin_x (b0 _) f_o8 hT9
          clear hT9
          have f_l9 := kx hx9 (f_l8) (by omega)
          have rd_W9 := rd_W8.exc hx9 (f_o8) (by decide)
          have hB9 := xX hB8 hx9 (by omega)
          clear zl_a zl_b zo_a zo_b
          obtain ⟨zl_a, zl_b, ll9⟩ := rcell f_l9
          obtain ⟨zo_a, zo_b, lo9⟩ := rcell f_o9
          have zE := (rcell (f_o9)).1
          have zL := (rcell (f_o9)).2.2
          refine bodyPost_ret (by simp [results, Tryz.results68, go_sem, zE, zL]; try rfl) rfl ?_
          unfold RP
          rw [hres.out]
          exact ⟨rfl, hB9, rd_W9⟩
end
end Go.Proofs.YtmpfbkeamihjbaaGreat

namespace Go.Proofs.YtmpfbkeamihjbaaGreat
open Go.RowKit
attribute [local go_sem] Oper.semAt_some

theorem xG {g : Nat} {w W w1 : World} (h : Exc g w W) (hb : Below w.heap.size W w1) (hs : W.heap.size ≤ w1.heap.size) : Exc g w w1 :=
  ⟨h.le, h.low.trans (hb.mono h.le), Nat.le_trans h.size hs, fun k hk hn => (hb.block k hk).trans (h.other k hk hn)⟩
theorem Rdr.lowB {g n : Nat} {B : Option Addr} {c : Nat} {b : List Int} {at' : Nat} {w w1 : World} (h : Rdr g B c b at' w) (hg : g < n) (hB : 0 < b.length → ∃ gy o, B = some ⟨gy, o, none⟩ ∧ gy < n) (hb : Below n w w1) : Rdr g B c b at' w1 :=
  ⟨(hb.block g hg).trans h.hg, ⟨h.hy.cap, h.hy.top, fun hl => by
    obtain ⟨gy, o, cur, e, h1, h2⟩ := h.hy.mem hl
    obtain ⟨gy', o', e', h3⟩ := hB hl
    rw [e] at e'
    injection e' with e'
    injection e' with e1 e2
    subst e1
    exact ⟨gy, o, cur, e, (hb.block gy h3).trans h1, h2⟩⟩, h.le⟩
theorem Rdr.low {g : Nat} {B : Option Addr} {c : Nat} {b : List Int} {at' : Nat} {w : World} (h : Rdr g B c b at' w) : 0 < b.length → ∃ gy o, B = some ⟨gy, o, none⟩ ∧ gy < w.heap.size := fun hl => by
  obtain ⟨gy, o, cur, e, h1, h2⟩ := h.hy.mem hl
  exact ⟨gy, o, e, (Array.getElem?_eq_some_iff.1 h1).1⟩

/-- memory that is not older than a call -/
def UpA (B : Nat) (A : Option Addr) : Prop := ∀ a, A = some a → B ≤ a.block
theorem UpA.mono {B B' : Nat} {A : Option Addr} (h : UpA B A) (hB : B' ≤ B) : UpA B' A := fun a e => Nat.le_trans hB (h a e)
theorem UpA.none (B : Nat) : UpA B none := fun a e => by cases e
theorem OwnC.up {kd : IntKind} {T : TypeId} {B : Nat} {w : World} {A : Option Addr} {n c : Nat} {l : List Int} (h : OwnC kd T B w (.slice A n c) l) : UpA B A := fun a e => by
  subst e
  exact h.lt _ rfl
theorem OwnR.up {B : Nat} {w : World} {A : Option Addr} {n c : Nat} {l : List Rn} (h : OwnR B w (.slice A n c) l) : UpA B A := fun a e => by
  subst e
  exact h.lt _ rfl

section
variable (g : Nat) (B : Option Addr) (c : Nat) (b : List Int) (hb : Byt b) (at' : Nat)
set_option maxRecDepth 100000 in
set_option maxHeartbeats 4000000 in
theorem r_line4 (w : World) (h : Rdr g B c b at' w) : Calls Tryz.prog 68 #[.pointer (some ⟨g, 0, none⟩), .int .i64 4] w (RP g B c b l4V (pL b 4 at') w) := by
  have hres : Hid (pL b 4 at' = .ok (⟨0, 0, 0, 0⟩, at')) := hide (by simp [pL])
  have lgw : g < w.heap.size := h.lt
  go_enter Tryz.func68, Tryz.ntmps68
  go_wp2_with fail
  have zE := (rcell (ka (na w #[.int .i64 0, .int .i64 0, .int .i64 0, .int .i64 0] 24) (.cells #[.int .i64 0, .int .i64 0, .int .i64 0, .int .i64 1] 24))).1
  have zL := (rcell (ka (na w #[.int .i64 0, .int .i64 0, .int .i64 0, .int .i64 0] 24) (.cells #[.int .i64 0, .int .i64 0, .int .i64 0, .int .i64 1] 24))).2.2
  refine bodyPost_ret (by simp [results, Tryz.results68, go_sem, zE, zL]; try rfl) rfl ?_
  unfold RP
  rw [hres.out]
  exact ⟨rfl, (xA (xA (x0 g w (Nat.le_of_lt h.lt)) (.cells #[.int .i64 0, .int .i64 0, .int .i64 0, .int .i64 0] 24)) (.cells #[.int .i64 0, .int .i64 0, .int .i64 0, .int .i64 1] 24)), (h.below (bA (bA (b0 _) (.cells #[.int .i64 0, .int .i64 0, .int .i64 0, .int .i64 0] 24)) (.cells #[.int .i64 0, .int .i64 0, .int .i64 0, .int .i64 1] 24)))⟩

/-- how a reader's function ends that hands back a row of numbers -/
def RPv (r : Except Int (List Int × Nat)) (w : World) (e : Ending) (w' : World) : Prop :=
  match r with
  | .ok (l, nx) => ∃ A' d n', e = .returned (.slice A' n' d) ∧ Hid (n' = l.length ∧ UpA w.heap.size A') ∧ VR w' A' d l ∧ Exc g w w' ∧ Rdr g B c b nx w'
  | .error z => e = .panicked [pn z] ∧ Exc g w w'

set_option maxRecDepth 100000 in
set_option maxHeartbeats 4000000 in
include hb in
theorem r_raw (m : Nat) (hm : m ≤ 256) (w : World) (h : Rdr g B c b at' w) :
    Calls Tryz.prog 69 #[.pointer (some ⟨g, 0, none⟩), .int .i64 (m : Int)] w (RPv g B c b (pVs b m 0 at') w) := by
  have hlow := hide h.low
  have c2 := need_yes
  have c3 := need_no 7
  have lgw : g < w.heap.size := h.lt
  go_enter Tryz.func69, Tryz.ntmps69
  go_wp2_with fail
  go_loopw [5, 6, 8] (fun vo va vi wr => ∃ (k pos : Nat) (a : Int) (pre : List Int) (v0 : Value), v0 = vo ∧ vi = .int .i64 k ∧ va = .int .i64 a ∧ k ≤ m ∧ pre.length = k ∧ Hid (bkV a = true) ∧ OwnC .i64 2 w.heap.size wr v0 pre ∧ Hid ((∀ l nx, pVs b (m - k) a pos = .ok (l, nx) → pVs b m 0 at' = .ok (pre ++ l, nx)) ∧ (∀ x, pVs b (m - k) a pos = .error x → pVs b m 0 at' = .error x)) ∧ Rdr g B c b pos wr ∧ Exc g w wr) (fun _ _ vi _ => m - (intOf vi).toNat)
  case atStart => exact ⟨0, at', 0, [], _, rfl, rfl, rfl, by omega, rfl, hide (by decide), OwnC.nil _ _, hide ⟨fun l nx h => by simpa using h, fun x h => by simpa using h⟩, h, (x0 g w (Nat.le_of_lt h.lt))⟩
  case round =>
    obtain ⟨k, pos, a, pre, v0, rfl, rfl, rfl, hk, hpl, ha, ho, hP, jw, hx⟩ := hrel
    by_cases hlt : k < m
    · have hav := bkV_spec ha.out
      have HPL := hide hpl
      clear hpl
      go_wp2_with fail
      refine (r_signed g B c b hb pos _ jw).mono ?_
      rintro e w1 hp1
      have hmk : m - k = (m - (k + 1)) + 1 := by omega
      cases e1 : pS b pos with
      | error x =>
        rw [e1] at hp1
        obtain ⟨rfl, hx1⟩ := hp1
        have hres : Hid (pVs b m 0 at' = .error x) := hide (hP.out.2 x (by rw [hmk, pVs, e1]))
        clear e1 hmk
        go_wp2
        exact ⟨rfl, by unfold RPv; rw [hres.out]; exact ⟨rfl, (xX hx hx1 (by omega))⟩⟩
      | ok p =>
        obtain ⟨d, n1⟩ := p
        rw [e1] at hp1
        obtain ⟨rfl, hx1, rn_W1⟩ := hp1
        have hB1 := xX hx hx1 (by omega)
        have hdb := pS_bd hb e1
        by_cases hv : bkV (a + d) = true
        · have hvb := bkV_spec hv
          have d1 : decide (-2305844108725321728 ≤ a + d) = true := decide_eq_true hvb.1
          have d2 : decide (a + d ≤ 2305844108725321728) = true := decide_eq_true hvb.2
          have hP2 : Hid ((∀ l nx, pVs b (m - (k + 1)) (a + d) n1 = .ok (l, nx) → pVs b m 0 at' = .ok ((pre ++ [a + d]) ++ l, nx)) ∧ (∀ x, pVs b (m - (k + 1)) (a + d) n1 = .error x → pVs b m 0 at' = .error x)) := hide ⟨fun l nx h => by
            have := hP.out.1 ((a + d) :: l) nx (by rw [hmk, pVs, e1]; simp only; rw [if_pos hv, h])
            rw [this, List.append_assoc]
            rfl, fun x h => hP.out.2 x (by rw [hmk, pVs, e1]; simp only; rw [if_pos hv, h])⟩
          have HV := hide hv
          have ho1 : OwnC .i64 2 w.heap.size w1 v0 pre := ho.excP hx1 lgw
          clear e1 hmk hv ho hP
          go_wp2_with fail
          refine (c2 _ _).mono ?_
          rintro e w2 ⟨rfl, rfl⟩
          have k1 : pre.length + [a + d].length ≤ 1048576 := by have := HPL.out; simp; omega
          have kw : w.heap.size ≤ w1.heap.size := hB1.size
          have kB : w.heap.size ≤ (w1.alloc (.cells #[.int .i64 (a + d)] 2)).heap.size := by simp; omega
          go_wp2_with (at_builtin; refine wpList_pushC rfl _ _ 25 rfl 8 Tryz.underlying25 long_info (by decide) w.heap.size _ pre [a + d] _ _ rfl rfl (ho1.lift (bA (b0 _) _)) (CR.oneI (T := 2) _ _).inC k1 kB ?_; intro v1 w5 ho5 hb5 hs5)
          have hb6 : Below w.heap.size w1 w5 := hb5 w1 ((bA (b0 w1) _).mono kw)
          go_roundw
          case rel => exact ⟨k + 1, n1, a + d, pre ++ [a + d], v1, rfl, by go_num, rfl, by omega, by rw [List.length_append, HPL.out]; rfl, hide HV.out, ho5, hP2, (rn_W1).lowB lgw hlow.out hb6, xG hB1 hb6 (Nat.le_trans (by simp) hs5)⟩
          case measure => simp [intOf]; omega
        · have hres : Hid (pVs b m 0 at' = .error 7) := hide (hP.out.2 7 (by rw [hmk, pVs, e1]; simp only; rw [if_neg hv]))
          have hnr : ¬ (-2305844108725321728 ≤ a + d ∧ a + d ≤ 2305844108725321728) := fun h => hv (by unfold bkV; simp [h.1, h.2])
          obtain ⟨u, hu⟩ : ∃ u, wrap64 (a + d) = u := ⟨_, rfl⟩
          have hur : ¬ (-2305844108725321728 ≤ u ∧ u ≤ 2305844108725321728) := by rw [← hu]; unfold wrap64; omega
          clear e1 hmk hv hnr
          by_cases hu1 : -2305844108725321728 ≤ u
          · have d1 : decide (-2305844108725321728 ≤ u) = true := decide_eq_true hu1
            have d2 : decide (u ≤ 2305844108725321728) = false := decide_eq_false (by omega)
            go_wp2_with fail
            refine (c3 _).mono ?_
            rintro e w2 ⟨rfl, rfl⟩
            go_wp2
            exact ⟨rfl, by unfold RPv; rw [hres.out]; exact ⟨rfl, hB1⟩⟩
          · have d1 : decide (-2305844108725321728 ≤ u) = false := decide_eq_false hu1
            go_wp2_with fail
            refine (c3 _).mono ?_
            rintro e w2 ⟨rfl, rfl⟩
            go_wp2
            exact ⟨rfl, by unfold RPv; rw [hres.out]; exact ⟨rfl, hB1⟩⟩
    · obtain rfl : k = m := by omega
      have hres : Hid (pVs b k 0 at' = .ok (pre, pos)) := hide (by
        have := hP.out.1 [] pos (by rw [Nat.sub_self, pVs])
        rwa [List.append_nil] at this)
      obtain ⟨A', d, rfl, hr⟩ := ho.cr
      have hup := hide ho.up
      clear hP
      go_wp2
      go_ret
      unfold RPv
      rw [hres.out]
      exact ⟨A', d, _, rfl, hide ⟨by omega, hup.out⟩, hr, hx, jw⟩
end
end Go.Proofs.YtmpfbkeamihjbaaGreat

namespace Go.Proofs.YtmpfbkeamihjbaaGreat
open Go.RowKit
attribute [local go_sem] Oper.semAt_some

theorem r3_at1 {w : World} {g : Nat} {a0 a1 a2 : Value} {t : TypeId} {f : Nat × Nat} (h : w.heap[g]? = some (.cells #[a0, a1, a2] t f)) (v : Value) : w.setCell ⟨g, 1, none⟩ v = setRow w g #[a0, v, a2] := setRow_of_setCell h v rfl

section
variable (g : Nat) (B : Option Addr) (c : Nat) (b : List Int) (hb : Byt b) (at' : Nat)
/-- how a reader's function ends that hands back runs -/
def RPr (r : Except Int (List Rn × Nat)) (w : World) (e : Ending) (w' : World) : Prop :=
  match r with
  | .ok (l, nx) => ∃ A' d n', e = .returned (.slice A' n' d) ∧ Hid (n' = l.length ∧ UpA w.heap.size A') ∧ RR w' A' d l ∧ Exc g w w' ∧ Rdr g B c b nx w'
  | .error z => e = .panicked [pn z] ∧ Exc g w w'

set_option maxRecDepth 100000 in
set_option maxHeartbeats 8000000 in
include hb in
theorem r_runs (w : World) (h : Rdr g B c b at' w) :
    Calls Tryz.prog 67 #[.pointer (some ⟨g, 0, none⟩)] w (RPr g B c b (pRuns b at') w) := by
  have hmf : ∀ (fn : Fn) (first cap : Array Value) (w : World), (Instr.makeFunc fn first cap).run Tryz.prog w = .ok (.func fn first cap) w := fun _ _ _ _ => rfl
  have hlow := hide h.low
  have c2 := need_yes
  have c3 := need_no 7
  have lgw : g < w.heap.size := h.lt
  go_enter Tryz.func67, Tryz.ntmps67
  go_wp2_with fail
  refine (r_plain g B c b hb at' 256 (by decide) _ h).mono ?_
  rintro e w1 hp1
  cases e0 : pU b 256 at' with
  | error x =>
    rw [e0] at hp1
    obtain ⟨rfl, hx1⟩ := hp1
    have hres : Hid (pRuns b at' = .error x) := hide (by rw [pRuns, e0])
    clear e0
    go_wp2
    exact ⟨rfl, by unfold RPr; rw [hres.out]; exact ⟨rfl, (xX (x0 g w (Nat.le_of_lt h.lt)) hx1 (by omega))⟩⟩
  | ok p =>
    obtain ⟨m, p0⟩ := p
    rw [e0] at hp1
    obtain ⟨rfl, hx1, rn_W1⟩ := hp1
    have hB1 := xX (x0 g w (Nat.le_of_lt h.lt)) hx1 (by omega)
    by_cases hm0 : m = 0
    · have hres : Hid (pRuns b at' = .error 7) := hide (by rw [pRuns, e0]; simp only; rw [if_pos hm0])
      have dm : decide (0 < m) = false := by simp; omega
      clear e0 hm0
      go_wp2_with fail
      refine (c3 _).mono ?_
      rintro e wz ⟨rfl, rfl⟩
      go_wp2
      exact ⟨rfl, by unfold RPr; rw [hres.out]; exact ⟨rfl, hB1⟩⟩
    · have hm256 : m ≤ 256 := pU_le e0
      have hfin : Hid (∀ x : Int, pRs b m 0 p0 = .error x → pRuns b at' = .error x) := hide fun x h => by rw [pRuns, e0]; simp only; rw [if_neg hm0, h]
      have hfin2 : Hid (∀ l nx, pRs b m 0 p0 = .ok (l, nx) → pRuns b at' = if rnB l = true then .ok (l, nx) else .error 7) := hide fun l nx h => by rw [pRuns, e0]; simp only; rw [if_neg hm0, h]
      have dm : decide (0 < m) = true := by simp; omega
      clear e0 hm0
      go_wp2_with fail
      refine (c2 _ _).mono ?_
      rintro e wz ⟨rfl, rfl⟩
      clear dm
      go_wp2_with fail
      go_loopw [5, 6, 16] (fun vo va vi wr => ∃ (k pos : Nat) (a : Int) (pre : List Rn) (v0 : Value), v0 = vo ∧ vi = .int .i64 k ∧ va = .int .i64 a ∧ k ≤ m ∧ pre.length = k ∧ Hid (0 ≤ a ∧ a ≤ 281474976710656) ∧ OwnR w.heap.size wr v0 pre ∧ Hid ((∀ l nx, pRs b (m - k) a pos = .ok (l, nx) → pRs b m 0 p0 = .ok (pre ++ l, nx)) ∧ (∀ x, pRs b (m - k) a pos = .error x → pRs b m 0 p0 = .error x)) ∧ Rdr g B c b pos wr ∧ Exc g w wr) (fun _ _ vi _ => m - (intOf vi).toNat)
      case atStart => exact ⟨0, p0, 0, [], _, rfl, rfl, rfl, by omega, rfl, hide (by decide), OwnR.nil _ _, hide ⟨fun l nx h => by simpa using h, fun x h => by simpa using h⟩, rn_W1, hB1⟩
      case round =>
        obtain ⟨k, pos, a, pre, v0, rfl, rfl, rfl, hk, hpl, ha, ho, hP, jw, hx⟩ := hrel
        by_cases hlt : k < m
        · have ha0 := ha.out.1
          have ha1 := ha.out.2
          have HPL := hide hpl
          have hmk : m - k = (m - (k + 1)) + 1 := by omega
          have lgr := jw.lt
          clear hpl
          go_wp2_with fail
          refine (r_plain g B c b hb pos 281474976710656 (by decide) _ jw).mono ?_
          rintro e w2 hp2
          cases e1 : pU b 281474976710656 pos with
          | error x =>
            rw [e1] at hp2
            obtain ⟨rfl, hx2⟩ := hp2
            have hres := hide (hfin.out _ (hP.out.2 x (by rw [hmk, pRs, pR1, e1])))
            clear e1 hmk
            go_wp2
            exact ⟨rfl, by unfold RPr; rw [hres.out]; exact ⟨rfl, hx.trans (xX (x0 g wr (Nat.le_of_lt jw.lt)) hx2 (by omega))⟩⟩
          | ok p =>
            obtain ⟨F, n1⟩ := p
            rw [e1] at hp2
            obtain ⟨rfl, hx2, rn_W2⟩ := hp2
            have hB2 := xX (x0 g wr (Nat.le_of_lt jw.lt)) hx2 (by omega)
            have hF := pU_le e1
            go_wp2_with fail
            refine (r_plain g B c b hb n1 256 (by decide) _ rn_W2).mono ?_
            rintro e w3 hp3
            cases e2 : pU b 256 n1 with
            | error x =>
              rw [e2] at hp3
              obtain ⟨rfl, hx3⟩ := hp3
              have hres := hide (hfin.out _ (hP.out.2 x (by rw [hmk, pRs, pR1, e1]; simp only; rw [e2])))
              clear e1 e2 hmk
              go_wp2
              exact ⟨rfl, by unfold RPr; rw [hres.out]; exact ⟨rfl, hx.trans (xX hB2 hx3 (by omega))⟩⟩
            | ok p =>
              obtain ⟨C, n2⟩ := p
              rw [e2] at hp3
              obtain ⟨rfl, hx3, rn_W3⟩ := hp3
              have hB3 := xX hB2 hx3 (by omega)
              have hC := pU_le e2
              have lg3 := (rn_W3).lt
              have ls3 := (hB3).size
              by_cases hC0 : C = 0
              · have hres := hide (hfin.out _ (hP.out.2 7 (by rw [hmk, pRs, pR1, e1]; simp only; rw [e2]; simp only; rw [if_pos hC0])))
                have dc : decide (0 < C) = false := by simp; omega
                have hnc : ¬ 0 < C := by omega
                clear e1 e2 hmk hC0
                go_wp2_with fail
                refine (c3 _).mono ?_
                rintro e wz ⟨rfl, rfl⟩
                go_wp2
                exact ⟨rfl, by unfold RPr; rw [hres.out]; exact ⟨rfl, hx.trans (xA hB3 (.cells #[.int .i64 (a + (F : Int)), .int .i64 0, .int .i64 (C : Int)] 46))⟩⟩
              · skip
                have dc : decide (0 < C) = true := by simp; omega
                by_cases hC1 : C = 1
                · have dd : decide (1 < C) = false := by simp; omega
                  have HC1 := hide hC1
                  have hnc : ¬ 1 < C := by omega
                  clear hC1
                  go_wp2_with fail
                  refine (c2 _ _).mono ?_
                  rintro e wz ⟨rfl, rfl⟩
                  clear dc
                  have cl := fun w => code_last (a + (F : Int)) 0 (C : Int) (by omega) (by omega) (by omega) w
                  have hrl : Hid (rlast ⟨a + (F : Int), 0, (C : Int)⟩ = a + (F : Int) + ((C : Int) - 1) * 0) := hide rfl
                  have hbd := rlast_bd (a + (F : Int)) 0 (C : Int) (by omega) (by omega)
                  obtain ⟨la, hla⟩ : ∃ la, rlast ⟨a + (F : Int), 0, (C : Int)⟩ = la := ⟨_, rfl⟩
                  have hl0 : 0 ≤ la := by rw [← hla, hrl.out]; omega
                  rw [hla] at cl
                  by_cases hl : la ≤ 281474976710656
                  · have hR1 : Hid (pR1 b a pos = .ok (⟨a + (F : Int), 0, (C : Int)⟩, n2)) := hide (by
                      have h2 : a + (F : Int) + ((C : Int) - 1) * 0 ≤ 281474976710656 := by rw [← hrl.out, hla]; exact hl
                      rw [pR1, e1]; simp only; rw [e2]; simp only; rw [if_neg hC0, if_pos HC1.out]; rw [Int.mul_zero, Int.add_zero] at h2; simp only [h2, if_true, if_false])
                    have hP2 : Hid ((∀ l nx, pRs b (m - (k + 1)) la n2 = .ok (l, nx) → pRs b m 0 p0 = .ok ((pre ++ [⟨a + (F : Int), 0, (C : Int)⟩]) ++ l, nx)) ∧ (∀ x, pRs b (m - (k + 1)) la n2 = .error x → pRs b m 0 p0 = .error x)) := hide ⟨fun l nx h => by
                      have := hP.out.1 (⟨a + (F : Int), 0, (C : Int)⟩ :: l) nx (by rw [hmk, pRs, hR1.out]; simp only; rw [hla, h])
                      rw [this, List.append_assoc]
                      rfl, fun x h => hP.out.2 x (by rw [hmk, pRs, hR1.out]; simp only; rw [hla, h])⟩
                    have dl : decide (la ≤ 281474976710656) = true := decide_eq_true hl
                    have HL := hide hl
                    have k1 : pre.length + [(⟨a + (F : Int), 0, (C : Int)⟩ : Rn)].length ≤ 4096 := by have := HPL.out; simp; omega
                    clear hla hP hrl hbd hmk e1 e2 hl
                    go_wp2_with fail
                    refine (cl _).mono ?_
                    rintro e w4 ⟨rfl, hb4⟩
                    have f_r4 := kp hb4 (na w3 #[.int .i64 (a + (F : Int)), .int .i64 0, .int .i64 (C : Int)] 46)
                    have rd_W4 := (rn_W3.below (bA (b0 _) (.cells #[.int .i64 (a + (F : Int)), .int .i64 0, .int .i64 (C : Int)] 46))).below hb4
                    have hB4 := xB (xA hB3 (.cells #[.int .i64 (a + (F : Int)), .int .i64 0, .int .i64 (C : Int)] 46)) hb4
                    obtain ⟨zr_a, zr_b, lr4⟩ := rcell f_r4
                    go_wp2_with fail
                    refine (c2 _ _).mono ?_
                    rintro e wz ⟨rfl, rfl⟩
                    have jX := hB4
                    have jW := rd_W4
                    have jO := ho.excP jX lgw
                    have kw := Nat.le_trans hx.size jX.size
                    go_wp2_with (at_builtin; refine wpList_pushR rfl _ _ rfl w.heap.size _ pre [⟨a + (F : Int), 0, (C : Int)⟩] _ _ rfl rfl (jO.lift (bA (b0 _) _)) (RR.oneI _ ⟨a + (F : Int), 0, (C : Int)⟩).inR k1 (by simp; omega) ?_; intro v1 w5 ho5 hb5 hs5)
                    have hb6 := hb5 _ ((bA (b0 _) _).mono kw)
                    go_roundw
                    case rel => exact ⟨k + 1, n2, la, pre ++ [⟨a + (F : Int), 0, (C : Int)⟩], v1, rfl, by go_num, rfl, by omega, by rw [List.length_append, HPL.out]; rfl, hide ⟨hl0, HL.out⟩, ho5, hP2, jW.lowB lgw hlow.out hb6, xG (hx.trans jX) hb6 (Nat.le_trans (by simp) hs5)⟩
                    case measure => simp [intOf]; omega
                  · skip
                    have hR1 : Hid (pR1 b a pos = .error 7) := hide (by
                      have h2 : ¬ a + (F : Int) + ((C : Int) - 1) * 0 ≤ 281474976710656 := by rw [← hrl.out, hla]; exact hl
                      rw [pR1, e1]; simp only; rw [e2]; simp only; rw [if_neg hC0, if_pos HC1.out]; rw [Int.mul_zero, Int.add_zero] at h2; simp only [h2, if_true, if_false])
                    have hres := hide (hfin.out _ (hP.out.2 7 (by rw [hmk, pRs, hR1.out])))
                    have dl : decide (la ≤ 281474976710656) = false := decide_eq_false hl
                    clear hla hP hrl hbd hmk e1 e2
                    go_wp2_with fail
                    refine (cl _).mono ?_
                    rintro e w4 ⟨rfl, hb4⟩
                    have f_r4 := kp hb4 (na w3 #[.int .i64 (a + (F : Int)), .int .i64 0, .int .i64 (C : Int)] 46)
                    have rd_W4 := (rn_W3.below (bA (b0 _) (.cells #[.int .i64 (a + (F : Int)), .int .i64 0, .int .i64 (C : Int)] 46))).below hb4
                    have hB4 := xB (xA hB3 (.cells #[.int .i64 (a + (F : Int)), .int .i64 0, .int .i64 (C : Int)] 46)) hb4
                    obtain ⟨zr_a, zr_b, lr4⟩ := rcell f_r4
                    go_wp2_with fail
                    refine (c3 _).mono ?_
                    rintro e wz ⟨rfl, rfl⟩
                    go_wp2
                    exact ⟨rfl, by unfold RPr; rw [hres.out]; exact ⟨rfl, hx.trans hB4⟩⟩
                · skip
                  have dd : decide (1 < C) = true := by simp; omega
                  have hnc : 1 < C := by omega
                  go_wp2_with fail
                  refine (c2 _ _).mono ?_
                  rintro e wz ⟨rfl, rfl⟩
                  clear dc
                  go_wp2_with fail
                  refine (r_plain g B c b hb n2 281474976710656 (by decide) _ (rn_W3.below (bA (b0 _) (.cells #[.int .i64 (a + (F : Int)), .int .i64 0, .int .i64 (C : Int)] 46)))).mono ?_
                  rintro e w4 hp4
                  cases e3 : pU b 281474976710656 n2 with
                  | error x =>
                    rw [e3] at hp4
                    obtain ⟨rfl, hx4⟩ := hp4
                    have hres := hide (hfin.out _ (hP.out.2 x (by rw [hmk, pRs, pR1, e1]; simp only; rw [e2]; simp only; rw [if_neg hC0, if_neg hC1, e3])))
                    clear e1 e2 e3 hmk
                    go_wp2
                    exact ⟨rfl, by unfold RPr; rw [hres.out]; exact ⟨rfl, hx.trans (xX (xA hB3 (.cells #[.int .i64 (a + (F : Int)), .int .i64 0, .int .i64 (C : Int)] 46)) hx4 (by omega))⟩⟩
                  | ok p =>
                    obtain ⟨S, n3⟩ := p
                    rw [e3] at hp4
                    obtain ⟨rfl, hx4, rn_W4⟩ := hp4
                    have f_r4 := kx hx4 (na w3 #[.int .i64 (a + (F : Int)), .int .i64 0, .int .i64 (C : Int)] 46) (by omega)
                    have hB4 := xX (xA hB3 (.cells #[.int .i64 (a + (F : Int)), .int .i64 0, .int .i64 (C : Int)] 46)) hx4 (by omega)
                    obtain ⟨zr_a, zr_b, lr4⟩ := rcell f_r4
                    have hS := pU_le e3
                    go_wp2_with fail
                    rw [r3_at1 f_r4]
                    generalize hT5 : setRow _ _ _ = w5
                    obtain ⟨hx5, f_r5⟩ := fin_x (b0 _) f_r4 hT5
                    clear hT5
                    have rd_W5 := rn_W4.exc hx5 (f_r4) (by decide)
                    have hB5 := xX hB4 hx5 (by omega)
                    clear zr_a zr_b
                    obtain ⟨zr_a, zr_b, lr5⟩ := rcell f_r5
                    clear dd
                    have cl := fun w => code_last (a + (F : Int)) (S : Int) (C : Int) (by omega) (by omega) (by omega) w
                    have hrl : Hid (rlast ⟨a + (F : Int), (S : Int), (C : Int)⟩ = a + (F : Int) + ((C : Int) - 1) * (S : Int)) := hide rfl
                    have hbd := rlast_bd (a + (F : Int)) (S : Int) (C : Int) (by omega) (by omega)
                    obtain ⟨la, hla⟩ : ∃ la, rlast ⟨a + (F : Int), (S : Int), (C : Int)⟩ = la := ⟨_, rfl⟩
                    have hl0 : 0 ≤ la := by rw [← hla, hrl.out]; omega
                    rw [hla] at cl
                    by_cases hl : la ≤ 281474976710656
                    · have hR1 : Hid (pR1 b a pos = .ok (⟨a + (F : Int), (S : Int), (C : Int)⟩, n3)) := hide (by
                        have h2 : a + (F : Int) + ((C : Int) - 1) * (S : Int) ≤ 281474976710656 := by rw [← hrl.out, hla]; exact hl
                        rw [pR1, e1]; simp only; rw [e2]; simp only; rw [if_neg hC0, if_neg hC1, e3]; simp only [h2, if_true, if_false])
                      have hP2 : Hid ((∀ l nx, pRs b (m - (k + 1)) la n3 = .ok (l, nx) → pRs b m 0 p0 = .ok ((pre ++ [⟨a + (F : Int), (S : Int), (C : Int)⟩]) ++ l, nx)) ∧ (∀ x, pRs b (m - (k + 1)) la n3 = .error x → pRs b m 0 p0 = .error x)) := hide ⟨fun l nx h => by
                        have := hP.out.1 (⟨a + (F : Int), (S : Int), (C : Int)⟩ :: l) nx (by rw [hmk, pRs, hR1.out]; simp only; rw [hla, h])
                        rw [this, List.append_assoc]
                        rfl, fun x h => hP.out.2 x (by rw [hmk, pRs, hR1.out]; simp only; rw [hla, h])⟩
                      have dl : decide (la ≤ 281474976710656) = true := decide_eq_true hl
                      have HL := hide hl
                      have k1 : pre.length + [(⟨a + (F : Int), (S : Int), (C : Int)⟩ : Rn)].length ≤ 4096 := by have := HPL.out; simp; omega
                      clear hla hP hrl hbd hmk e1 e2 e3 hl
                      go_wp2_with fail
                      refine (cl _).mono ?_
                      rintro e w6 ⟨rfl, hb6⟩
                      have f_r6 := kp hb6 (f_r5)
                      have rd_W6 := rd_W5.below hb6
                      have hB6 := xB hB5 hb6
                      clear zr_a zr_b
                      obtain ⟨zr_a, zr_b, lr6⟩ := rcell f_r6
                      go_wp2_with fail
                      refine (c2 _ _).mono ?_
                      rintro e wz ⟨rfl, rfl⟩
                      have jX := hB6
                      have jW := rd_W6
                      have jO := ho.excP jX lgw
                      have kw := Nat.le_trans hx.size jX.size
                      go_wp2_with (at_builtin; refine wpList_pushR rfl _ _ rfl w.heap.size _ pre [⟨a + (F : Int), (S : Int), (C : Int)⟩] _ _ rfl rfl (jO.lift (bA (b0 _) _)) (RR.oneI _ ⟨a + (F : Int), (S : Int), (C : Int)⟩).inR k1 (by simp; omega) ?_; intro v1 w5 ho5 hb5 hs5)
                      have hb6 := hb5 _ ((bA (b0 _) _).mono kw)
                      go_roundw
                      case rel => exact ⟨k + 1, n3, la, pre ++ [⟨a + (F : Int), (S : Int), (C : Int)⟩], v1, rfl, by go_num, rfl, by omega, by rw [List.length_append, HPL.out]; rfl, hide ⟨hl0, HL.out⟩, ho5, hP2, jW.lowB lgw hlow.out hb6, xG (hx.trans jX) hb6 (Nat.le_trans (by simp) hs5)⟩
                      case measure => simp [intOf]; omega
                    · skip
                      have hR1 : Hid (pR1 b a pos = .error 7) := hide (by
                        have h2 : ¬ a + (F : Int) + ((C : Int) - 1) * (S : Int) ≤ 281474976710656 := by rw [← hrl.out, hla]; exact hl
                        rw [pR1, e1]; simp only; rw [e2]; simp only; rw [if_neg hC0, if_neg hC1, e3]; simp only [h2, if_true, if_false])
                      have hres := hide (hfin.out _ (hP.out.2 7 (by rw [hmk, pRs, hR1.out])))
                      have dl : decide (la ≤ 281474976710656) = false := decide_eq_false hl
                      clear hla hP hrl hbd hmk e1 e2 e3
                      go_wp2_with fail
                      refine (cl _).mono ?_
                      rintro e w6 ⟨rfl, hb6⟩
                      have f_r6 := kp hb6 (f_r5)
                      have rd_W6 := rd_W5.below hb6
                      have hB6 := xB hB5 hb6
                      clear zr_a zr_b
                      obtain ⟨zr_a, zr_b, lr6⟩ := rcell f_r6
                      go_wp2_with fail
                      refine (c3 _).mono ?_
                      rintro e wz ⟨rfl, rfl⟩
                      go_wp2
                      exact ⟨rfl, by unfold RPr; rw [hres.out]; exact ⟨rfl, hx.trans hB6⟩⟩
        · obtain rfl : k = m := by omega
          have hall : Hid (pRs b k 0 p0 = .ok (pre, pos)) := hide (by
            have := hP.out.1 [] pos (by rw [Nat.sub_self, pRs])
            rwa [List.append_nil] at this)
          have hres := hide (hfin2.out pre pos hall.out)
          obtain ⟨A', d, rfl, hr⟩ := ho.rr
          have hup := hide ho.up
          clear hpl
          have cc := fun w hR => runs_Check A' d pre w hR
          clear hP
          cases hrn : rnB pre
          · rw [hrn] at cc
            rw [hrn, if_neg (by simp)] at hres
            simp only [Bool.false_eq_true, if_false] at cc
            clear hrn
            go_wp2_with fail
            refine (cc _ hr).mono ?_
            rintro e w7 ⟨rfl, hb7⟩
            have rd_W7 := jw.below hb7
            have rd_l7 := hr.below hb7
            have hB7 := xB hx hb7
            go_wp2_with fail
            refine (c3 _).mono ?_
            rintro e wz ⟨rfl, rfl⟩
            go_wp2
            exact ⟨rfl, by unfold RPr; rw [hres.out]; exact ⟨rfl, hB7⟩⟩
          · skip
            rw [hrn] at cc
            rw [hrn, if_pos rfl] at hres
            simp only [if_true] at cc
            clear hrn
            go_wp2_with fail
            refine (cc _ hr).mono ?_
            rintro e w7 ⟨rfl, hb7⟩
            have rd_W7 := jw.below hb7
            have rd_l7 := hr.below hb7
            have hB7 := xB hx hb7
            go_wp2_with fail
            refine (c2 _ _).mono ?_
            rintro e wz ⟨rfl, rfl⟩
            go_wp2
            go_ret
            unfold RPr
            rw [hres.out]
            exact ⟨A', d, _, rfl, hide ⟨rfl, hup.out⟩, rd_l7, hB7, rd_W7⟩
end
end Go.Proofs.YtmpfbkeamihjbaaGreat

namespace Go.Proofs.YtmpfbkeamihjbaaGreat
open Go.RowKit
attribute [local go_sem] Oper.semAt_some

theorem pRuns_ok {b : List Int} {at' : Nat} {l : List Rn} {nx : Nat} (h : pRuns b at' = .ok (l, nx)) : rnB l = true := by
  rw [pRuns] at h
  split at h
  · cases h
  · split at h
    · cases h
    · split at h
      · cases h
      · split at h
        · next hr =>
          injection h with h
          injection h with h h2
          subst h
          exact hr
        · cases h
theorem pK_ok {b : List Int} {at' : Nat} {k : Int} {nx : Nat} (h : pK b at' = .ok (k, nx)) : 1 ≤ k ∧ k ≤ 4 := by
  unfold pK at h
  split at h
  · split at h
    · next hk =>
      injection h with h
      injection h with h h2
      subst h
      exact hk
    · cases h
  · cases h
theorem r_line (g : Nat) (B : Option Addr) (c : Nat) (b : List Int) (hb : Byt b) (at' : Nat) (kd : Int) (hk : 1 ≤ kd ∧ kd ≤ 4) (w : World) (h : Rdr g B c b at' w) : Calls Tryz.prog 68 #[.pointer (some ⟨g, 0, none⟩), .int .i64 kd] w (RP g B c b l4V (pL b kd at') w) := by
  rcases (show kd = 1 ∨ kd = 2 ∨ kd = 3 ∨ kd = 4 by omega) with rfl | rfl | rfl | rfl
  · exact r_line1 g B c b hb at' w h
  · exact r_line2 g B c b hb at' w h
  · exact r_line3 g B c b hb at' w h
  · exact r_line4 g B c b at' w h

section
variable (g : Nat) (B : Option Addr) (c : Nat) (b : List Int) (hb : Byt b) (at' : Nat)
/-- how a reader's function ends that hands back a segment -/
def RPs (r : Except Int (Sg × Nat)) (w : World) (e : Ending) (w' : World) : Prop :=
  match r with
  | .ok (s, nx) => ∃ RA rc n VA vc m, e = .returned (.agg #[.int .i64 s.kd, .slice RA n rc, .int .i64 s.q.A, .int .i64 s.q.R, .int .i64 s.q.N, .int .i64 s.q.D, .slice VA m vc, .int .i64 s.er]) ∧ Hid (n = s.l.length ∧ m = s.vs.length ∧ UpA w.heap.size RA ∧ UpA w.heap.size VA) ∧ RR w' RA rc s.l ∧ VR w' VA vc s.vs ∧ Exc g w w' ∧ Rdr g B c b nx w'
  | .error z => e = .panicked [pn z] ∧ Exc g w w'
set_option maxRecDepth 100000 in
set_option maxHeartbeats 8000000 in
include hb in
theorem r_seg (w : World) (h : Rdr g B c b at' w) :
    Calls Tryz.prog 43 #[.pointer (some ⟨g, 0, none⟩)] w (RPs g B c b (pSeg b at') w) := by
  have c2 := need_yes
  have c3 := need_no 7
  have lgw : g < w.heap.size := h.lt
  go_enter Tryz.func43, Tryz.ntmps43
  go_wp2_with fail
  refine (r_kind g B c b hb at' _ (h.below (bA (b0 _) (.cells #[.int .i64 0, .slice none 0 0, .int .i64 0, .int .i64 0, .int .i64 0, .int .i64 0, .slice none 0 0, .int .i64 0] 27)))).mono ?_
  rintro e w1 hp1
  cases e1 : pK b at' with
  | error x =>
    rw [e1] at hp1
    obtain ⟨rfl, hx1⟩ := hp1
    have hres : Hid (pSeg b at' = .error x) := hide (by rw [pSeg, e1])
    clear e1
    go_wp2
    exact ⟨rfl, by unfold RPs; rw [hres.out]; exact ⟨rfl, (xX (xA (x0 g w (Nat.le_of_lt h.lt)) (.cells #[.int .i64 0, .slice none 0 0, .int .i64 0, .int .i64 0, .int .i64 0, .int .i64 0, .slice none 0 0, .int .i64 0] 27)) hx1 (by omega))⟩⟩
  | ok p =>
    obtain ⟨kd, n1⟩ := p
    rw [e1] at hp1
    obtain ⟨rfl, hx1, rn_W1⟩ := hp1
    have f_o1 := kx hx1 (na w #[.int .i64 0, .slice none 0 0, .int .i64 0, .int .i64 0, .int .i64 0, .int .i64 0, .slice none 0 0, .int .i64 0] 27) (by omega)
    have hB1 := xX (xA (x0 g w (Nat.le_of_lt h.lt)) (.cells #[.int .i64 0, .slice none 0 0, .int .i64 0, .int .i64 0, .int .i64 0, .int .i64 0, .slice none 0 0, .int .i64 0] 27)) hx1 (by omega)
    obtain ⟨zo_a, zo_b, lo1⟩ := rcell f_o1
    have hkd := pK_ok e1
    have lg1 := (rn_W1).lt
    have ls1 := (hB1).size
    go_wp2_with fail
    go_wp2_with fail
    refine (r_plain g B c b hb n1 1099511627776 (by decide) _ (rn_W1.below (bA (b0 _) (.cells #[.int .i64 kd, .slice none 0 0, .int .i64 0, .int .i64 0, .int .i64 0, .int .i64 0, .slice none 0 0, .int .i64 0] 27)))).mono ?_
    rintro e w2 hp2
    cases e2 : pU b 1099511627776 n1 with
    | error x =>
      rw [e2] at hp2
      obtain ⟨rfl, hx2⟩ := hp2
      have hres : Hid (pSeg b at' = .error x) := hide (by rw [pSeg, e1]; simp only; rw [e2])
      clear e1 e2
      go_wp2
      exact ⟨rfl, by unfold RPs; rw [hres.out]; exact ⟨rfl, (xX (xA hB1 (.cells #[.int .i64 kd, .slice none 0 0, .int .i64 0, .int .i64 0, .int .i64 0, .int .i64 0, .slice none 0 0, .int .i64 0] 27)) hx2 (by omega))⟩⟩
    | ok p =>
      obtain ⟨er, n2⟩ := p
      rw [e2] at hp2
      obtain ⟨rfl, hx2, rn_W2⟩ := hp2
      have f_o2 := kx hx2 (ka (f_o1) (.cells #[.int .i64 kd, .slice none 0 0, .int .i64 0, .int .i64 0, .int .i64 0, .int .i64 0, .slice none 0 0, .int .i64 0] 27)) (by omega)
      have f_s2 := kx hx2 (na w1 #[.int .i64 kd, .slice none 0 0, .int .i64 0, .int .i64 0, .int .i64 0, .int .i64 0, .slice none 0 0, .int .i64 0] 27) (by omega)
      have hB2 := xX (xA hB1 (.cells #[.int .i64 kd, .slice none 0 0, .int .i64 0, .int .i64 0, .int .i64 0, .int .i64 0, .slice none 0 0, .int .i64 0] 27)) hx2 (by omega)
      clear zo_a zo_b
      obtain ⟨zo_a, zo_b, lo2⟩ := rcell f_o2
      obtain ⟨zs_a, zs_b, ls2⟩ := rcell f_s2
      go_wp2_with fail
      rw [r8_at7 f_s2]
      generalize hT3 : setRow _ _ _ = w3
      obtain ⟨hx3, f_s3⟩ := fin_x (b0 _) f_s2 hT3
      clear hT3
      have f_o3 := kx hx3 (f_o2) (by omega)
      have rd_W3 := rn_W2.exc hx3 (f_s2) (by decide)
      have hB3 := xX hB2 hx3 (by omega)
      clear zo_a zo_b zs_a zs_b
      obtain ⟨zo_a, zo_b, lo3⟩ := rcell f_o3
      obtain ⟨zs_a, zs_b, ls3⟩ := rcell f_s3
      have lsR := (hB3).size
      go_wp2_with fail
      refine (r_runs g B c b hb n2 _ rd_W3).mono ?_
      rintro e w4 hp4
      cases e3 : pRuns b n2 with
      | error x =>
        rw [e3] at hp4
        obtain ⟨rfl, hx4⟩ := hp4
        have hres : Hid (pSeg b at' = .error x) := hide (by rw [pSeg, e1]; simp only; rw [e2]; simp only; rw [e3])
        clear e1 e2 e3
        go_wp2
        exact ⟨rfl, by unfold RPs; rw [hres.out]; exact ⟨rfl, (xX hB3 hx4 (by omega))⟩⟩
      | ok p =>
        obtain ⟨l, n3⟩ := p
        rw [e3] at hp4
        obtain ⟨RA, rc, ln, rfl, hln, rn_l4, hx4, rn_W4⟩ := hp4
        have f_o4 := kx hx4 (f_o3) (by omega)
        have f_s4 := kx hx4 (f_s3) (by omega)
        have hB4 := xX hB3 hx4 (by omega)
        clear zo_a zo_b zs_a zs_b
        obtain ⟨zo_a, zo_b, lo4⟩ := rcell f_o4
        obtain ⟨zs_a, zs_b, ls4⟩ := rcell f_s4
        have hrn := pRuns_ok e3
        obtain ⟨rfl, huR⟩ := hln.out
        replace huR := hide (huR.mono lsR)
        clear hln
        have cc := fun w hR => runs_Count_yes RA rc l hrn w hR
        have hsum := rnB_spec hrn
        go_wp2_with fail
        rw [r8_at1 f_s4]
        generalize hT5 : setRow _ _ _ = w5
        obtain ⟨hx5, f_s5⟩ := fin_x (b0 _) f_s4 hT5
        clear hT5
        have f_o5 := kx hx5 (f_o4) (by omega)
        have rd_W5 := rn_W4.exc hx5 (f_s4) (by decide)
        have rd_l5 := rn_l4.exc hx5 (f_s4) (by decide)
        have hB5 := xX hB4 hx5 (by omega)
        clear zo_a zo_b zs_a zs_b
        obtain ⟨zo_a, zo_b, lo5⟩ := rcell f_o5
        obtain ⟨zs_a, zs_b, ls5⟩ := rcell f_s5
        go_wp2_with fail
        refine (r_line g B c b hb n3 kd hkd _ rd_W5).mono ?_
        rintro e w6 hp6
        cases e4 : pL b kd n3 with
        | error x =>
          rw [e4] at hp6
          obtain ⟨rfl, hx6⟩ := hp6
          have hres : Hid (pSeg b at' = .error x) := hide (by rw [pSeg, e1]; simp only; rw [e2]; simp only; rw [e3]; simp only; rw [e4])
          clear e1 e2 e3 e4
          go_wp2
          exact ⟨rfl, by unfold RPs; rw [hres.out]; exact ⟨rfl, (xX hB5 hx6 (by omega))⟩⟩
        | ok p =>
          obtain ⟨⟨qA, qR, qN, qD⟩, n4⟩ := p
          rw [e4] at hp6
          obtain ⟨rfl, hx6, rn_W6⟩ := hp6
          have f_o6 := kx hx6 (f_o5) (by omega)
          have f_s6 := kx hx6 (f_s5) (by omega)
          have rd_l6 := (rd_l5).wd hx6 rd_W5
          have hB6 := xX hB5 hx6 (by omega)
          clear zo_a zo_b zs_a zs_b
          obtain ⟨zo_a, zo_b, lo6⟩ := rcell f_o6
          obtain ⟨zs_a, zs_b, ls6⟩ := rcell f_s6
          unfold l4V
          by_cases hk4 : kd = 4
          · have dk : (kd == 4) = true := by simp [hk4]
            have HK := hide hk4
            clear hk4
            go_wp2_with fail
            rw [r8_4 f_s6]
            generalize hT7 : setRow _ _ _ = w7
            obtain ⟨hx7, f_s7⟩ := fin_x (b0 _) f_s6 hT7
            clear hT7
            have f_o7 := kx hx7 (f_o6) (by omega)
            have rd_l7 := rd_l6.exc hx7 (f_s6) (by decide)
            have rd_W7 := rn_W6.exc hx7 (f_s6) (by decide)
            have hB7 := xX hB6 hx7 (by omega)
            clear zo_a zo_b zs_a zs_b
            obtain ⟨zo_a, zo_b, lo7⟩ := rcell f_o7
            obtain ⟨zs_a, zs_b, ls7⟩ := rcell f_s7
            go_wp2_with fail
            refine (cc _ rd_l7).mono ?_
            rintro e w8 ⟨rfl, hb8⟩
            have f_o8 := kp hb8 (f_o7)
            have f_s8 := kp hb8 (f_s7)
            have rd_l8 := rd_l7.below hb8
            have rd_W8 := rd_W7.below hb8
            have hB8 := xB hB7 hb8
            clear zo_a zo_b zs_a zs_b
            obtain ⟨zo_a, zo_b, lo8⟩ := rcell f_o8
            obtain ⟨zs_a, zs_b, ls8⟩ := rcell f_s8
            obtain ⟨m, hm⟩ : ∃ m : Nat, rnSum l l.length = m := ⟨(rnSum l l.length).toNat, by have := rnSum_bk hsum.2.2.1 (Nat.le_refl _); omega⟩
            have hm256 : m ≤ 256 := by have := hsum.2.2.2; omega
            have lsV := (hB8).size
            go_wp2_with fail
            refine (r_raw g B c b hb n4 m hm256 _ rd_W8).mono ?_
            rintro e w9 hp9
            cases e5 : pVs b m 0 n4 with
            | error x =>
              rw [e5] at hp9
              obtain ⟨rfl, hx9⟩ := hp9
              have hres : Hid (pSeg b at' = .error x) := hide (by rw [pSeg, e1]; simp only; rw [e2]; simp only; rw [e3]; simp only; rw [e4]; simp only; rw [if_pos HK.out, hm, Int.toNat_natCast, e5])
              clear e1 e2 e3 e4 e5
              go_wp2
              exact ⟨rfl, by unfold RPs; rw [hres.out]; exact ⟨rfl, (xX hB8 hx9 (by omega))⟩⟩
            | ok p =>
              obtain ⟨vs, n5⟩ := p
              rw [e5] at hp9
              obtain ⟨VA, vc, lm, rfl, hlm, rn_v9, hx9, rn_W9⟩ := hp9
              have f_o9 := kx hx9 (f_o8) (by omega)
              have f_s9 := kx hx9 (f_s8) (by omega)
              have rd_l9 := (rd_l8).wd hx9 rd_W8
              have hB9 := xX hB8 hx9 (by omega)
              clear zo_a zo_b zs_a zs_b
              obtain ⟨zo_a, zo_b, lo9⟩ := rcell f_o9
              obtain ⟨zs_a, zs_b, ls9⟩ := rcell f_s9
              obtain ⟨rfl, huV⟩ := hlm.out
              replace huV := hide (huV.mono lsV)
              clear hlm
              go_wp2_with fail
              rw [r8_at6 f_s9]
              generalize hT10 : setRow _ _ _ = w10
              obtain ⟨hx10, f_s10⟩ := fin_x (b0 _) f_s9 hT10
              clear hT10
              have f_o10 := kx hx10 (f_o9) (by omega)
              have rd_l10 := rd_l9.exc hx10 (f_s9) (by decide)
              have rd_W10 := rn_W9.exc hx10 (f_s9) (by decide)
              have rd_v10 := rn_v9.exc hx10 (f_s9) (by decide)
              have hB10 := xX hB9 hx10 (by omega)
              clear zo_a zo_b zs_a zs_b
              obtain ⟨zo_a, zo_b, lo10⟩ := rcell f_o10
              obtain ⟨zs_a, zs_b, ls10⟩ := rcell f_s10
              have ck := fun w hR hV => seg_Check RA VA rc vc l vs kd qA qR qN qD (er : Int) w hR hV
              cases hs : sgB ⟨kd, l, ⟨qA, qR, qN, qD⟩, vs, (er : Int)⟩
              · rw [hs, if_neg (by simp)] at ck
                have hres : Hid (pSeg b at' = .error 7) := hide (by rw [pSeg, e1]; simp only; rw [e2]; simp only; rw [e3]; simp only; rw [e4]; simp only; rw [if_pos HK.out, hm, Int.toNat_natCast, e5]; simp only; rw [hs]; rfl)
                clear hs e1 e2 e3 e4 e5
                go_wp2_with fail
                refine (ck _ rd_l10 rd_v10).mono ?_
                rintro e w11 ⟨rfl, hb11⟩
                have f_o11 := kp hb11 (f_o10)
                have f_s11 := kp hb11 (f_s10)
                have rd_l11 := rd_l10.below hb11
                have rd_W11 := rd_W10.below hb11
                have rd_v11 := rd_v10.below hb11
                have hB11 := xB hB10 hb11
                clear zo_a zo_b zs_a zs_b
                obtain ⟨zo_a, zo_b, lo11⟩ := rcell f_o11
                obtain ⟨zs_a, zs_b, ls11⟩ := rcell f_s11
                go_wp2_with fail
                refine (c3 _).mono ?_
                rintro e wz ⟨rfl, rfl⟩
                go_wp2
                exact ⟨rfl, by unfold RPs; rw [hres.out]; exact ⟨rfl, hB11⟩⟩
              · rw [hs, if_pos rfl] at ck
                have hres : Hid (pSeg b at' = .ok (⟨kd, l, ⟨qA, qR, qN, qD⟩, vs, (er : Int)⟩, n5)) := hide (by rw [pSeg, e1]; simp only; rw [e2]; simp only; rw [e3]; simp only; rw [e4]; simp only; rw [if_pos HK.out, hm, Int.toNat_natCast, e5]; simp only; rw [hs]; rfl)
                clear hs e1 e2 e3 e4 e5
                go_wp2_with fail
                refine (ck _ rd_l10 rd_v10).mono ?_
                rintro e w11 ⟨rfl, hb11⟩
                have f_o11 := kp hb11 (f_o10)
                have f_s11 := kp hb11 (f_s10)
                have rd_l11 := rd_l10.below hb11
                have rd_W11 := rd_W10.below hb11
                have rd_v11 := rd_v10.below hb11
                have hB11 := xB hB10 hb11
                clear zo_a zo_b zs_a zs_b
                obtain ⟨zo_a, zo_b, lo11⟩ := rcell f_o11
                obtain ⟨zs_a, zs_b, ls11⟩ := rcell f_s11
                go_wp2_with fail
                refine (c2 _ _).mono ?_
                rintro e wz ⟨rfl, rfl⟩
                go_wp2_with fail
                rw [row8 f_o11]
                generalize hT12 : setRow _ _ _ = w12
                obtain ⟨hx12, f_o12⟩ := fin_x (b0 _) f_o11 hT12
                clear hT12
                have f_s12 := kx hx12 (f_s11) (by omega)
                have rd_l12 := rd_l11.exc hx12 (f_o11) (by decide)
                have rd_W12 := rd_W11.exc hx12 (f_o11) (by decide)
                have rd_v12 := rd_v11.exc hx12 (f_o11) (by decide)
                have hB12 := xX hB11 hx12 (by omega)
                clear zo_a zo_b zs_a zs_b
                obtain ⟨zs_a, zs_b, ls12⟩ := rcell f_s12
                obtain ⟨zo_a, zo_b, lo12⟩ := rcell f_o12
                have zE := (rcell (f_o12)).1
                have zL := (rcell (f_o12)).2.2
                refine bodyPost_ret (by simp [results, Tryz.results43, go_sem, zE, zL]; try rfl) rfl ?_
                unfold RPs
                rw [hres.out]
                exact ⟨RA, rc, _, VA, vc, _, rfl, hide ⟨rfl, rfl, huR.out, huV.out⟩, rd_l12, rd_v12, hB12, rd_W12⟩
          · skip
            have dk : (kd == 4) = false := by simp [hk4]
            have HK := hide hk4
            clear hk4
            go_wp2_with fail
            rw [r8_4 f_s6]
            generalize hT7 : setRow _ _ _ = w7
            obtain ⟨hx7, f_s7⟩ := fin_x (b0 _) f_s6 hT7
            clear hT7
            have f_o7 := kx hx7 (f_o6) (by omega)
            have rd_l7 := rd_l6.exc hx7 (f_s6) (by decide)
            have rd_W7 := rn_W6.exc hx7 (f_s6) (by decide)
            have hB7 := xX hB6 hx7 (by omega)
            clear zo_a zo_b zs_a zs_b
            obtain ⟨zo_a, zo_b, lo7⟩ := rcell f_o7
            obtain ⟨zs_a, zs_b, ls7⟩ := rcell f_s7
            obtain ⟨VA, hVA⟩ : ∃ VA : Option Addr, VA = none := ⟨_, rfl⟩
            obtain ⟨vc, hvc⟩ : ∃ vc : Nat, vc = 0 := ⟨_, rfl⟩
            have hv := CR.nil (kd := .i64) (T := 2) w7 VA vc (by omega)
            subst hVA hvc
            have ck := fun w hR hV => seg_Check RA none rc 0 l [] kd qA qR qN qD (er : Int) w hR hV
            cases hs : sgB ⟨kd, l, ⟨qA, qR, qN, qD⟩, [], (er : Int)⟩
            · rw [hs, if_neg (by simp)] at ck
              have hres : Hid (pSeg b at' = .error 7) := hide (by rw [pSeg, e1]; simp only; rw [e2]; simp only; rw [e3]; simp only; rw [e4]; simp only; rw [if_neg HK.out]; simp only; rw [hs]; rfl)
              clear hs e1 e2 e3 e4
              go_wp2_with fail
              refine (ck _ rd_l7 hv).mono ?_
              rintro e w8 ⟨rfl, hb8⟩
              have f_o8 := kp hb8 (f_o7)
              have f_s8 := kp hb8 (f_s7)
              have rd_l8 := rd_l7.below hb8
              have rd_W8 := rd_W7.below hb8
              have rd_v8 := hv.below hb8
              have hB8 := xB hB7 hb8
              clear zo_a zo_b zs_a zs_b
              obtain ⟨zo_a, zo_b, lo8⟩ := rcell f_o8
              obtain ⟨zs_a, zs_b, ls8⟩ := rcell f_s8
              go_wp2_with fail
              refine (c3 _).mono ?_
              rintro e wz ⟨rfl, rfl⟩
              go_wp2
              exact ⟨rfl, by unfold RPs; rw [hres.out]; exact ⟨rfl, hB8⟩⟩
            · rw [hs, if_pos rfl] at ck
              have hres : Hid (pSeg b at' = .ok (⟨kd, l, ⟨qA, qR, qN, qD⟩, [], (er : Int)⟩, n4)) := hide (by rw [pSeg, e1]; simp only; rw [e2]; simp only; rw [e3]; simp only; rw [e4]; simp only; rw [if_neg HK.out]; simp only; rw [hs]; rfl)
              clear hs e1 e2 e3 e4
              go_wp2_with fail
              refine (ck _ rd_l7 hv).mono ?_
              rintro e w8 ⟨rfl, hb8⟩
              have f_o8 := kp hb8 (f_o7)
              have f_s8 := kp hb8 (f_s7)
              have rd_l8 := rd_l7.below hb8
              have rd_W8 := rd_W7.below hb8
              have rd_v8 := hv.below hb8
              have hB8 := xB hB7 hb8
              clear zo_a zo_b zs_a zs_b
              obtain ⟨zo_a, zo_b, lo8⟩ := rcell f_o8
              obtain ⟨zs_a, zs_b, ls8⟩ := rcell f_s8
              go_wp2_with fail
              refine (c2 _ _).mono ?_
              rintro e wz ⟨rfl, rfl⟩
              go_wp2_with fail
              rw [row8 f_o8]
              generalize hT9 : setRow _ _ _ = w9
              obtain ⟨hx9, f_o9⟩ := fin_x (b0 _) f_o8 hT9
              clear hT9
              have f_s9 := kx hx9 (f_s8) (by omega)
              have rd_l9 := rd_l8.exc hx9 (f_o8) (by decide)
              have rd_W9 := rd_W8.exc hx9 (f_o8) (by decide)
              have rd_v9 := rd_v8.exc hx9 (f_o8) (by decide)
              have hB9 := xX hB8 hx9 (by omega)
              clear zo_a zo_b zs_a zs_b
              obtain ⟨zs_a, zs_b, ls9⟩ := rcell f_s9
              obtain ⟨zo_a, zo_b, lo9⟩ := rcell f_o9
              have zE := (rcell (f_o9)).1
              have zL := (rcell (f_o9)).2.2
              refine bodyPost_ret (by simp [results, Tryz.results43, go_sem, zE, zL]; try rfl) rfl ?_
              unfold RPs
              rw [hres.out]
              exact ⟨RA, rc, _, none, 0, _, rfl, hide ⟨rfl, rfl, huR.out, UpA.none _⟩, rd_l9, rd_v9, hB9, rd_W9⟩
end
end Go.Proofs.YtmpfbkeamihjbaaGreat
