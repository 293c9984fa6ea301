/- swing.whole at this program. -/
import Derived.Test.YtfdaabdibpcjeaaSwing4
import Derived.Scope
set_option linter.unusedSimpArgs false
set_option linter.unusedVariables false
namespace Go.Proofs.Ytfdaabdibpcjeaa
open Go.RowKit
attribute [local go_sem] Oper.semAt_some

def lastD (pre : List (Dr × Bool)) : Dr × Bool := pre.getLast?.getD (dr0, false)
theorem lastD_snoc (pre : List (Dr × Bool)) (x : Dr × Bool) : lastD (pre ++ [x]) = x := by simp [lastD]
theorem lastD_upto (l : List Bd) (k : Nat) : lastD (upto (dl l) (k + 1)) = dl l k := by rw [upto_succ, lastD_snoc]

/-- what whole keeps between two rounds -/
def whI (w : World) (A : Option Addr) (c : Nat) (l : List Bd) (pre : List (Dr × Bool)) (W : World) : Prop :=
  W.heap[w.heap.size + 1 + 1]? = some (.cells (lastD pre).1.cs 72 (0, 0)) ∧ W.heap[w.heap.size + 1 + 1 + 1]? = some (.cells #[.bool (lastD pre).2] 4 (0, 0)) ∧
  W.heap[w.heap.size]? = some (.cells #[.slice A l.length c] 24 (0, 0)) ∧ W.heap[w.heap.size + 1]? = some (.cells dr0.cs 72 (0, 0)) ∧ Below w.heap.size w W

theorem whI.keep {w : World} {A : Option Addr} {c : Nat} {l : List Bd} {pre : List (Dr × Bool)} {B : Nat} {X Y : World} (h : whI w A c l pre X) (hB : w.heap.size + 4 ≤ B) (hb : Below B X Y) : whI w A c l pre Y := by
  obtain ⟨h1, h2, h3, h4, h5⟩ := h
  exact ⟨(hb.block _ (by omega)).trans h1, (hb.block _ (by omega)).trans h2, (hb.block _ (by omega)).trans h3, (hb.block _ (by omega)).trans h4, h5.trans (hb.mono (by omega))⟩

theorem whI.put {w : World} {A : Option Addr} {c : Nat} {l : List Bd} {pre : List (Dr × Bool)} {B : Nat} {W : World} (h : whI w A c l pre W) (hB : w.heap.size + 4 ≤ B) (d : Dr) (is : Bool) :
    Upper B W ((((((((W.setCell ⟨w.heap.size + 1 + 1, 0, none⟩ (.int .i64 d.t)).setCell ⟨w.heap.size + 1 + 1, 1, none⟩ (.int .i64 d.v)).setCell ⟨w.heap.size + 1 + 1, 2, none⟩ (.int .i64 d.n0)).setCell ⟨w.heap.size + 1 + 1, 3, none⟩ (.int .i64 d.d0)).setCell ⟨w.heap.size + 1 + 1, 4, none⟩ (.int .i64 d.n1)).setCell ⟨w.heap.size + 1 + 1, 5, none⟩ (.int .i64 d.d1)).setCell ⟨w.heap.size + 1 + 1, 6, none⟩ (.int .i64 d.many)).setCell ⟨w.heap.size + 1 + 1 + 1, 0, none⟩ (.bool is)) ∧
    whI w A c l (pre ++ [(d, is)]) ((((((((W.setCell ⟨w.heap.size + 1 + 1, 0, none⟩ (.int .i64 d.t)).setCell ⟨w.heap.size + 1 + 1, 1, none⟩ (.int .i64 d.v)).setCell ⟨w.heap.size + 1 + 1, 2, none⟩ (.int .i64 d.n0)).setCell ⟨w.heap.size + 1 + 1, 3, none⟩ (.int .i64 d.d0)).setCell ⟨w.heap.size + 1 + 1, 4, none⟩ (.int .i64 d.n1)).setCell ⟨w.heap.size + 1 + 1, 5, none⟩ (.int .i64 d.d1)).setCell ⟨w.heap.size + 1 + 1, 6, none⟩ (.int .i64 d.many)).setCell ⟨w.heap.size + 1 + 1 + 1, 0, none⟩ (.bool is)) := by
  obtain ⟨i1, i2, i3, i4, i5⟩ := h
  unfold Dr.cs at i1
  rw [r7_7 i1]
  generalize hT1 : setRow W _ _ = W1
  obtain ⟨x1, f1⟩ := fin_x (b0 W) i1 hT1
  have k2 := kx x1 i2 (by omega)
  have k3 := kx x1 i3 (by omega)
  have k4 := kx x1 i4 (by omega)
  rw [row1 k2]
  generalize hT2 : setRow W1 _ _ = W2
  obtain ⟨x2, f2⟩ := fin_x (b0 W1) k2 hT2
  refine ⟨(Upper.exc x1 (by omega)).trans (Upper.exc x2 (by omega)), ?_, ?_, kx x2 k3 (by omega), kx x2 k4 (by omega), bX (bX i5 x1 (by omega)) x2 (by omega)⟩
  · rw [lastD_snoc]; exact kx x2 f1 (by omega)
  · rw [lastD_snoc]; exact f2

set_option maxRecDepth 100000 in
set_option maxHeartbeats 2000000 in
theorem swing_whole (A : Option Addr) (c : Nat) (l : List Bd) (hok : okF (-1) l = true) (hl : l.length ≤ 256) (h0 : 0 < l.length) (w : World) (hR : BR w A c l) :
    Calls Try.prog 34 #[.slice A l.length c] w fun e w' => e = .returned (.tuple #[.agg (dk l l.length).cs, .bool (drOpen (dk l l.length))]) ∧ Below w.heap.size w w' := by
  refine calls_of_wp_marks Try.func34 rfl ?_
  simp only [Try.ntmps34, List.size_toArray, List.length_cons, List.length_nil, Nat.reduceAdd, Nat.reduceSub, Array.replicate_succ, Array.replicate_zero, List.push_toArray, List.append_toArray, List.nil_append, List.cons_append]
  go_wp2_with fail
  refine wp_scope_straight ?_
  go_wp2_with fail
  refine wp_label ?_
  go_wp2_with fail
  refine (swing_doors _ _ _ _).mono ?_
  rintro e w' ⟨rfl, rfl⟩
  go_wp2_with fail
  generalize hW0 : ((((w.alloc (.cells #[.slice A l.length c] 24)).alloc (.cells #[.int .i64 0, .int .i64 0, .int .i64 0, .int .i64 0, .int .i64 0, .int .i64 0, .int .i64 0] 72)).alloc (.cells #[.int .i64 0, .int .i64 0, .int .i64 0, .int .i64 0, .int .i64 0, .int .i64 0, .int .i64 0] 72)).alloc (.cells #[.bool false] 4)).alloc (.cells #[.slice A l.length c] 24) = W0
  have hs0 : W0.heap.size = w.heap.size + 5 := by rw [← hW0]; simp
  have hI0 : whI w A c l [] W0 := by
    rw [← hW0]
    exact ⟨ka (ka (na2 w _ _ _ _) _) _, ka (na3 w _ _ _ _ _) _, ka (ka (ka (ka (na w _ _) _) _) _) _, ka (ka (ka (na1 w _ _ _) _) _) _, bA (bA (bA (bA (bA (b0 w) _) _) _) _) _⟩
  have hB0 : W0.heap[w.heap.size + 1 + 1 + 1 + 1]? = some (.cells #[.slice A l.length c] 24 (0, 0)) := by
    rw [← hW0]; exact na4 w _ _ _ _ _ _
  clear hW0
  refine wp_rangeFunc_seq rfl (enters_of Try.func84 (by kernel_rfl) rfl) (doors_seq _ c A l hok hl W0 hB0 h0) (fun _ => rfl)
    (whI w A c l) (fun c' pre W => c' = .exit 0 ∧ (lastD pre).1.many = l.length ∧ whI w A c l pre W) (fun s X Y h hb => h.keep (by omega) hb) (fun c' s X Y h hb => ⟨h.1, h.2.1, h.2.2.keep (by omega) hb⟩) (fun s X h => hR.below h.2.2.2.2) hI0 ?round ?done ?stop
  case round =>
    rintro l' pre ⟨d, is⟩ W K hl1 hl2 hi hlen hK
    have e1 : encD (d, is) = #[.agg #[.int .i64 d.t, .int .i64 d.v, .int .i64 d.n0, .int .i64 d.d0, .int .i64 d.n1, .int .i64 d.d1, .int .i64 d.many], .bool is] := rfl
    rw [e1]
    gi_wp2
    refine hK _ _ (bA (b0 _) _) ?_
    clear hK
    intro W₂ hT
    have hi2 : whI w A c l pre W₂ := (hi.keep (B := W.heap.size) (by omega) (bA (b0 W) _)).keep (B := w.heap.size + 4) (Nat.le_refl _) (hT.low (by omega))
    have hbx := kt hT (na W #[.int .i64 d.t, .int .i64 d.v, .int .i64 d.n0, .int .i64 d.d0, .int .i64 d.n1, .int .i64 d.d1, .int .i64 d.many] 72) (by omega)
    obtain ⟨zx1, zx2, zx3⟩ := rcell hbx
    obtain ⟨i1, i2, i3, i4, i5⟩ := hi2
    have j1 := i1
    unfold Dr.cs at j1
    obtain ⟨za1, za2, za3⟩ := rcell j1
    obtain ⟨zb1, zb2, zb3⟩ := rcell i2
    obtain ⟨zc1, zc2, zc3⟩ := rcell i3
    have hp := fun is => whI.put (B := W0.heap.size) (show whI w A c l pre W₂ from ⟨i1, i2, i3, i4, i5⟩) (by omega) d is
    clear hi i1 i2 i3 i4 i5 j1
    have HP := hide hp
    clear hp
    cases is
    · cases q : (d.many == (l.length : Int))
      · gi_wp2
        exact HP.out false
      · have qe : d.many = l.length := by simpa using q
        have HQ := hide qe
        clear qe
        gi_wp2
        exact ⟨(HP.out false).1, rfl, by rw [lastD_snoc]; exact HQ.out, (HP.out false).2⟩
    · gi_wp2
      exact HP.out true
  case done =>
    rintro D xs W hD rfl hi hK
    have hx : lastD (upto (dl l) l.length) = dl l (l.length - 1) := by rw [show l.length = (l.length - 1) + 1 by omega, lastD_upto]; rfl
    have hd : dl l (l.length - 1) = (dk l l.length, drOpen (dk l l.length)) := by unfold dl; rw [show l.length - 1 + 1 = l.length by omega]
    rw [hd] at hx
    obtain ⟨i1, i2, i3, i4, i5⟩ := hi
    rw [hx] at i1 i2
    clear hx hd
    generalize hgen : dk l l.length = d at *
    have HG := hide hgen
    clear hgen
    simp only [Dr.cs, dr0] at i1 i4 ⊢
    go_wp2_with fail
    obtain ⟨zo_a, zo_b, lo1⟩ := rcell i4
    obtain ⟨zu_a, zu_b, lu2⟩ := rcell i1
    obtain ⟨zv_a, zv_b, lv3⟩ := rcell i2
    refine Abs.wp_region_abs (Abs.cls _ (fun k => k = w.heap.size + 1)) [0, 1, 2, 3] (by kernel_rfl) (by kernel_rfl) (Below.refl _ _).drew ?_
    repeat (first | (refine Abs.step_pure rfl rfl (fun K hK => ?_); go_simp; (try go_bits); (first | refine hK _ _ ?_ | (simp only [↓IntWalk.iteOmega]; go_simp; (try go_bits); refine hK _ _ ?_)); clear hK K) | (refine Abs.step_late (v := ?_) rfl rfl (fun w0 hI => ?_) (fun K hK => ?_); rotate_left; (· have z0 := (rcell (kj hI i1 (by omega))).1; have z1 := (rcell (kj hI i2 (by omega))).1; go_simp; rfl); (simp only [Act.put, List.setIfInBounds_toArray, List.set_cons_zero, List.set_cons_succ]; refine hK _ _ ?_; clear hK K)) | (refine Abs.step_skip rfl rfl (fun K hK => ?_); (simp only [Act.put, List.setIfInBounds_toArray, List.set_cons_zero, List.set_cons_succ]; refine hK _ _ ?_; clear hK K)))
    (refine Abs.step_store (T := ?_) rfl rfl rfl (fun w0 hI hF hU => ?_) (fun w0 hI hU hJ => ?_) (fun K hK => ?_); rotate_left; (· have hR := kp hI i4; have hg0 := (rcell hR).1; have hg1 := (rcell hR).2.1; simp only [Abs.T_setF, Abs.T_addA, Abs.T_push, Abs.T_start]; go_simp; exact r7_7 hR _ _ _ _ _ _ _); (· first | exact trivial | exact js hJ rfl _ | exact js hJ (Or.inl rfl) _ | exact js hJ (Or.inr rfl) _); (simp only [Act.put, List.setIfInBounds_toArray, List.set_cons_zero, List.set_cons_succ]; refine hK _ _ ?_; clear hK K))
    repeat (first | (refine Abs.step_pure rfl rfl (fun K hK => ?_); go_simp; (try go_bits); (first | refine hK _ _ ?_ | (simp only [↓IntWalk.iteOmega]; go_simp; (try go_bits); refine hK _ _ ?_)); clear hK K) | (refine Abs.step_late (v := ?_) rfl rfl (fun w0 hI => ?_) (fun K hK => ?_); rotate_left; (· have z0 := (rcell (kj hI i1 (by omega))).1; have z1 := (rcell (kj hI i2 (by omega))).1; go_simp; rfl); (simp only [Act.put, List.setIfInBounds_toArray, List.set_cons_zero, List.set_cons_succ]; refine hK _ _ ?_; clear hK K)) | (refine Abs.step_skip rfl rfl (fun K hK => ?_); (simp only [Act.put, List.setIfInBounds_toArray, List.set_cons_zero, List.set_cons_succ]; refine hK _ _ ?_; clear hK K)))
    intro w0 hI hF hx1 hx2
    clear hx1 hx2 hF
    simp only [Abs.T_push]
    generalize hT4 : setRow w0 _ _ = w4
    obtain ⟨hx4, f_o4⟩ := fin_x hI (i4) hT4
    clear hT4 hI w0
    have f_u4 := kx hx4 (i1) (by omega)
    have f_v4 := kx hx4 (i2) (by omega)
    have hB4 := bX i5 hx4 (by omega)
    clear zo_a zo_b zu_a zu_b zv_a zv_b
    obtain ⟨zu_a, zu_b, lu4⟩ := rcell f_u4
    obtain ⟨zv_a, zv_b, lv4⟩ := rcell f_v4
    obtain ⟨zo_a, zo_b, lo4⟩ := rcell f_o4
    have lD := (Array.getElem?_eq_some_iff.1 hK).1
    have hK' := (hx4.other D lD (by omega)).trans hK
    clear hK
    go_wp2_with fail
    have hp := turned_put w4 D (.deferred none)
    obtain ⟨zp, -, -⟩ := rcell (kt hp (f_o4) (by omega))
    refine marks_ret rfl hK' (v := .tuple #[.agg #[.int .i64 d.t, .int .i64 d.v, .int .i64 d.n0, .int .i64 d.d0, .int .i64 d.n1, .int .i64 d.d1, .int .i64 d.many], .bool (drOpen d)]) (by simp [results, Try.results34, go_sem, zp]; try rfl) ⟨by rw [HG.out]; rfl, ?_⟩
    exact hB4.trans (hp.low (by omega))
  case stop =>
    rintro D c' pre W hD ⟨k, hk, rfl⟩ ⟨rfl, hm, hi⟩ hK
    have hkl : k + 1 = l.length := by
      rw [lastD_upto] at hm
      have h1 : (dl l k).1.many = ((k + 1 : Nat) : Int) := dk_many l (k + 1) (by omega)
      rw [h1] at hm
      omega
    rw [hkl] at hi
    clear hm hkl hk
    have hx : lastD (upto (dl l) l.length) = dl l (l.length - 1) := by rw [show l.length = (l.length - 1) + 1 by omega, lastD_upto]; rfl
    have hd : dl l (l.length - 1) = (dk l l.length, drOpen (dk l l.length)) := by unfold dl; rw [show l.length - 1 + 1 = l.length by omega]
    rw [hd] at hx
    obtain ⟨i1, i2, i3, i4, i5⟩ := hi
    rw [hx] at i1 i2
    clear hx hd
    generalize hgen : dk l l.length = d at *
    have HG := hide hgen
    clear hgen
    simp only [Dr.cs, dr0] at i1 i4 ⊢
    go_wp2_with fail
    obtain ⟨zo_a, zo_b, lo1⟩ := rcell i4
    obtain ⟨zu_a, zu_b, lu2⟩ := rcell i1
    obtain ⟨zv_a, zv_b, lv3⟩ := rcell i2
    refine Abs.wp_region_abs (Abs.cls _ (fun k => k = w.heap.size + 1)) [0, 1, 2, 3] (by kernel_rfl) (by kernel_rfl) (Below.refl _ _).drew ?_
    repeat (first | (refine Abs.step_pure rfl rfl (fun K hK => ?_); go_simp; (try go_bits); (first | refine hK _ _ ?_ | (simp only [↓IntWalk.iteOmega]; go_simp; (try go_bits); refine hK _ _ ?_)); clear hK K) | (refine Abs.step_late (v := ?_) rfl rfl (fun w0 hI => ?_) (fun K hK => ?_); rotate_left; (· have z0 := (rcell (kj hI i1 (by omega))).1; have z1 := (rcell (kj hI i2 (by omega))).1; go_simp; rfl); (simp only [Act.put, List.setIfInBounds_toArray, List.set_cons_zero, List.set_cons_succ]; refine hK _ _ ?_; clear hK K)) | (refine Abs.step_skip rfl rfl (fun K hK => ?_); (simp only [Act.put, List.setIfInBounds_toArray, List.set_cons_zero, List.set_cons_succ]; refine hK _ _ ?_; clear hK K)))
    (refine Abs.step_store (T := ?_) rfl rfl rfl (fun w0 hI hF hU => ?_) (fun w0 hI hU hJ => ?_) (fun K hK => ?_); rotate_left; (· have hR := kp hI i4; have hg0 := (rcell hR).1; have hg1 := (rcell hR).2.1; simp only [Abs.T_setF, Abs.T_addA, Abs.T_push, Abs.T_start]; go_simp; exact r7_7 hR _ _ _ _ _ _ _); (· first | exact trivial | exact js hJ rfl _ | exact js hJ (Or.inl rfl) _ | exact js hJ (Or.inr rfl) _); (simp only [Act.put, List.setIfInBounds_toArray, List.set_cons_zero, List.set_cons_succ]; refine hK _ _ ?_; clear hK K))
    repeat (first | (refine Abs.step_pure rfl rfl (fun K hK => ?_); go_simp; (try go_bits); (first | refine hK _ _ ?_ | (simp only [↓IntWalk.iteOmega]; go_simp; (try go_bits); refine hK _ _ ?_)); clear hK K) | (refine Abs.step_late (v := ?_) rfl rfl (fun w0 hI => ?_) (fun K hK => ?_); rotate_left; (· have z0 := (rcell (kj hI i1 (by omega))).1; have z1 := (rcell (kj hI i2 (by omega))).1; go_simp; rfl); (simp only [Act.put, List.setIfInBounds_toArray, List.set_cons_zero, List.set_cons_succ]; refine hK _ _ ?_; clear hK K)) | (refine Abs.step_skip rfl rfl (fun K hK => ?_); (simp only [Act.put, List.setIfInBounds_toArray, List.set_cons_zero, List.set_cons_succ]; refine hK _ _ ?_; clear hK K)))
    intro w0 hI hF hx1 hx2
    clear hx1 hx2 hF
    simp only [Abs.T_push]
    generalize hT4 : setRow w0 _ _ = w4
    obtain ⟨hx4, f_o4⟩ := fin_x hI (i4) hT4
    clear hT4 hI w0
    have f_u4 := kx hx4 (i1) (by omega)
    have f_v4 := kx hx4 (i2) (by omega)
    have hB4 := bX i5 hx4 (by omega)
    clear zo_a zo_b zu_a zu_b zv_a zv_b
    obtain ⟨zu_a, zu_b, lu4⟩ := rcell f_u4
    obtain ⟨zv_a, zv_b, lv4⟩ := rcell f_v4
    obtain ⟨zo_a, zo_b, lo4⟩ := rcell f_o4
    have lD := (Array.getElem?_eq_some_iff.1 hK).1
    have hK' := (hx4.other D lD (by omega)).trans hK
    clear hK
    go_wp2_with fail
    have hp := turned_put w4 D (.deferred none)
    obtain ⟨zp, -, -⟩ := rcell (kt hp (f_o4) (by omega))
    refine marks_ret rfl hK' (v := .tuple #[.agg #[.int .i64 d.t, .int .i64 d.v, .int .i64 d.n0, .int .i64 d.d0, .int .i64 d.n1, .int .i64 d.d1, .int .i64 d.many], .bool (drOpen d)]) (by simp [results, Try.results34, go_sem, zp]; try rfl) ⟨by rw [HG.out]; rfl, ?_⟩
    exact hB4.trans (hp.low (by omega))
end Go.Proofs.Ytfdaabdibpcjeaa
