/- swing.whole at this program. swing.first at this program. (door).line; swing.Hinge, Door, Fit, Through at this program. swing.Hinge, Door, Fit at this program. swing.Fit and Through at this program. -/
import Derived.Test.YtfdaabdibpcjeaaP8
import Derived.Scope
import Derived.Test.YtfdaabdibpcjeaaP3
set_option linter.unusedSimpArgs false
set_option linter.unusedVariables false
namespace Go.Proofs.Ytfdaabdibpcjeaa
open Go.RowKit
attribute [local go_sem] Oper.semAt_some

def lastD (pre : List (Dr × Bool)) : Dr × Bool := pre.getLast?.getD (dr0, false)
theorem lastD_snoc (pre : List (Dr × Bool)) (x : Dr × Bool) : lastD (pre ++ [x]) = x := by simp [lastD]
theorem lastD_upto (l : List Bd) (k : Nat) : lastD (upto (dl l) (k + 1)) = dl l k := by rw [upto_succ, lastD_snoc]

/-- what whole keeps between two rounds -/
def whI (w : World) (A : Option Addr) (c : Nat) (l : List Bd) (pre : List (Dr × Bool)) (W : World) : Prop :=
  W.heap[w.heap.size + 1 + 1]? = some (.cells (lastD pre).1.cs 72 (0, 0)) ∧ W.heap[w.heap.size + 1 + 1 + 1]? = some (.cells #[.bool (lastD pre).2] 4 (0, 0)) ∧
  W.heap[w.heap.size]? = some (.cells #[.slice A l.length c] 24 (0, 0)) ∧ W.heap[w.heap.size + 1]? = some (.cells dr0.cs 72 (0, 0)) ∧ Below w.heap.size w W

theorem whI.keep {w : World} {A : Option Addr} {c : Nat} {l : List Bd} {pre : List (Dr × Bool)} {B : Nat} {X Y : World} (h : whI w A c l pre X) (hB : w.heap.size + 4 ≤ B) (hb : Below B X Y) : whI w A c l pre Y := by
  obtain ⟨h1, h2, h3, h4, h5⟩ := h
  exact ⟨(hb.block _ (by omega)).trans h1, (hb.block _ (by omega)).trans h2, (hb.block _ (by omega)).trans h3, (hb.block _ (by omega)).trans h4, h5.trans (hb.mono (by omega))⟩

theorem whI.put {w : World} {A : Option Addr} {c : Nat} {l : List Bd} {pre : List (Dr × Bool)} {B : Nat} {W : World} (h : whI w A c l pre W) (hB : w.heap.size + 4 ≤ B) (d : Dr) (is : Bool) :
    Upper B W ((((((((W.setCell ⟨w.heap.size + 1 + 1, 0, none⟩ (.int .i64 d.t)).setCell ⟨w.heap.size + 1 + 1, 1, none⟩ (.int .i64 d.v)).setCell ⟨w.heap.size + 1 + 1, 2, none⟩ (.int .i64 d.n0)).setCell ⟨w.heap.size + 1 + 1, 3, none⟩ (.int .i64 d.d0)).setCell ⟨w.heap.size + 1 + 1, 4, none⟩ (.int .i64 d.n1)).setCell ⟨w.heap.size + 1 + 1, 5, none⟩ (.int .i64 d.d1)).setCell ⟨w.heap.size + 1 + 1, 6, none⟩ (.int .i64 d.many)).setCell ⟨w.heap.size + 1 + 1 + 1, 0, none⟩ (.bool is)) ∧
    whI w A c l (pre ++ [(d, is)]) ((((((((W.setCell ⟨w.heap.size + 1 + 1, 0, none⟩ (.int .i64 d.t)).setCell ⟨w.heap.size + 1 + 1, 1, none⟩ (.int .i64 d.v)).setCell ⟨w.heap.size + 1 + 1, 2, none⟩ (.int .i64 d.n0)).setCell ⟨w.heap.size + 1 + 1, 3, none⟩ (.int .i64 d.d0)).setCell ⟨w.heap.size + 1 + 1, 4, none⟩ (.int .i64 d.n1)).setCell ⟨w.heap.size + 1 + 1, 5, none⟩ (.int .i64 d.d1)).setCell ⟨w.heap.size + 1 + 1, 6, none⟩ (.int .i64 d.many)).setCell ⟨w.heap.size + 1 + 1 + 1, 0, none⟩ (.bool is)) := by
  obtain ⟨i1, i2, i3, i4, i5⟩ := h
  unfold Dr.cs at i1
  rw [r7_7 i1]
  generalize hT1 : setRow W _ _ = W1
  obtain ⟨x1, f1⟩ := fin_x (b0 W) i1 hT1
  have k2 := kx x1 i2 (by omega)
  have k3 := kx x1 i3 (by omega)
  have k4 := kx x1 i4 (by omega)
  rw [row1 k2]
  generalize hT2 : setRow W1 _ _ = W2
  obtain ⟨x2, f2⟩ := fin_x (b0 W1) k2 hT2
  refine ⟨(Upper.exc x1 (by omega)).trans (Upper.exc x2 (by omega)), ?_, ?_, kx x2 k3 (by omega), kx x2 k4 (by omega), bX (bX i5 x1 (by omega)) x2 (by omega)⟩
  · rw [lastD_snoc]; exact kx x2 f1 (by omega)
  · rw [lastD_snoc]; exact f2

set_option maxRecDepth 100000 in
set_option maxHeartbeats 2000000 in
theorem swing_whole (A : Option Addr) (c : Nat) (l : List Bd) (hok : okF (-1) l = true) (hl : l.length ≤ 256) (h0 : 0 < l.length) (w : World) (hR : BR w A c l) :
    Calls Try.prog 34 #[.slice A l.length c] w fun e w' => e = .returned (.tuple #[.agg (dk l l.length).cs, .bool (drOpen (dk l l.length))]) ∧ Below w.heap.size w w' := by
  refine calls_of_wp_marks Try.func34 rfl ?_
  simp only [Try.ntmps34, List.size_toArray, List.length_cons, List.length_nil, Nat.reduceAdd, Nat.reduceSub, Array.replicate_succ, Array.replicate_zero, List.push_toArray, List.append_toArray, List.nil_append, List.cons_append]
  go_wp2_with fail
  refine wp_scope_straight ?_
  go_wp2_with fail
  refine wp_label ?_
  go_wp2_with fail
  refine (swing_doors _ _ _ _).mono ?_
  rintro e w' ⟨rfl, rfl⟩
  go_wp2_with fail
  generalize hW0 : ((((w.alloc (.cells #[.slice A l.length c] 24)).alloc (.cells #[.int .i64 0, .int .i64 0, .int .i64 0, .int .i64 0, .int .i64 0, .int .i64 0, .int .i64 0] 72)).alloc (.cells #[.int .i64 0, .int .i64 0, .int .i64 0, .int .i64 0, .int .i64 0, .int .i64 0, .int .i64 0] 72)).alloc (.cells #[.bool false] 4)).alloc (.cells #[.slice A l.length c] 24) = W0
  have hs0 : W0.heap.size = w.heap.size + 5 := by rw [← hW0]; simp
  have hI0 : whI w A c l [] W0 := by
    rw [← hW0]
    exact ⟨ka (ka (na2 w _ _ _ _) _) _, ka (na3 w _ _ _ _ _) _, ka (ka (ka (ka (na w _ _) _) _) _) _, ka (ka (ka (na1 w _ _ _) _) _) _, bA (bA (bA (bA (bA (b0 w) _) _) _) _) _⟩
  have hB0 : W0.heap[w.heap.size + 1 + 1 + 1 + 1]? = some (.cells #[.slice A l.length c] 24 (0, 0)) := by
    rw [← hW0]; exact na4 w _ _ _ _ _ _
  clear hW0
  refine wp_rangeFunc_seq rfl (enters_of Try.func84 (by kernel_rfl) rfl) (doors_seq _ c A l hok hl W0 hB0 h0) (fun _ => rfl)
    (whI w A c l) (fun c' pre W => c' = .exit 0 ∧ (lastD pre).1.many = l.length ∧ whI w A c l pre W) (fun s X Y h hb => h.keep (by omega) hb) (fun c' s X Y h hb => ⟨h.1, h.2.1, h.2.2.keep (by omega) hb⟩) (fun s X h => hR.below h.2.2.2.2) hI0 ?round ?done ?stop
  case round =>
    rintro l' pre ⟨d, is⟩ W K hl1 hl2 hi hlen hK
    have e1 : encD (d, is) = #[.agg #[.int .i64 d.t, .int .i64 d.v, .int .i64 d.n0, .int .i64 d.d0, .int .i64 d.n1, .int .i64 d.d1, .int .i64 d.many], .bool is] := rfl
    rw [e1]
    gi_wp2
    refine hK _ _ (bA (b0 _) _) ?_
    clear hK
    intro W₂ hT
    have hi2 : whI w A c l pre W₂ := (hi.keep (B := W.heap.size) (by omega) (bA (b0 W) _)).keep (B := w.heap.size + 4) (Nat.le_refl _) (hT.low (by omega))
    have hbx := kt hT (na W #[.int .i64 d.t, .int .i64 d.v, .int .i64 d.n0, .int .i64 d.d0, .int .i64 d.n1, .int .i64 d.d1, .int .i64 d.many] 72) (by omega)
    obtain ⟨zx1, zx2, zx3⟩ := rcell hbx
    obtain ⟨i1, i2, i3, i4, i5⟩ := hi2
    have j1 := i1
    unfold Dr.cs at j1
    obtain ⟨za1, za2, za3⟩ := rcell j1
    obtain ⟨zb1, zb2, zb3⟩ := rcell i2
    obtain ⟨zc1, zc2, zc3⟩ := rcell i3
    have hp := fun is => whI.put (B := W0.heap.size) (show whI w A c l pre W₂ from ⟨i1, i2, i3, i4, i5⟩) (by omega) d is
    clear hi i1 i2 i3 i4 i5 j1
    have HP := hide hp
    clear hp
    cases is
    · cases q : (d.many == (l.length : Int))
      · gi_wp2
        exact HP.out false
      · have qe : d.many = l.length := by simpa using q
        have HQ := hide qe
        clear qe
        gi_wp2
        exact ⟨(HP.out false).1, rfl, by rw [lastD_snoc]; exact HQ.out, (HP.out false).2⟩
    · gi_wp2
      exact HP.out true
  case done =>
    rintro D xs W hD rfl hi hK
    have hx : lastD (upto (dl l) l.length) = dl l (l.length - 1) := by rw [show l.length = (l.length - 1) + 1 by omega, lastD_upto]; rfl
    have hd : dl l (l.length - 1) = (dk l l.length, drOpen (dk l l.length)) := by unfold dl; rw [show l.length - 1 + 1 = l.length by omega]
    rw [hd] at hx
    obtain ⟨i1, i2, i3, i4, i5⟩ := hi
    rw [hx] at i1 i2
    clear hx hd
    generalize hgen : dk l l.length = d at *
    have HG := hide hgen
    clear hgen
    simp only [Dr.cs, dr0] at i1 i4 ⊢
    go_wp2_with fail
    obtain ⟨zo_a, zo_b, lo1⟩ := rcell i4
    obtain ⟨zu_a, zu_b, lu2⟩ := rcell i1
    obtain ⟨zv_a, zv_b, lv3⟩ := rcell i2
    refine Abs.wp_region_abs (Abs.cls _ (fun k => k = w.heap.size + 1)) [0, 1, 2, 3] (by kernel_rfl) (by kernel_rfl) (Below.refl _ _).drew ?_
    repeat (first | (refine Abs.step_pure rfl rfl (fun K hK => ?_); go_simp; (try go_bits); (first | refine hK _ _ ?_ | (simp only [↓IntWalk.iteOmega]; go_simp; (try go_bits); refine hK _ _ ?_)); clear hK K) | (refine Abs.step_late (v := ?_) rfl rfl (fun w0 hI => ?_) (fun K hK => ?_); rotate_left; (· have z0 := (rcell (kj hI i1 (by omega))).1; have z1 := (rcell (kj hI i2 (by omega))).1; go_simp; rfl); (simp only [Act.put, List.setIfInBounds_toArray, List.set_cons_zero, List.set_cons_succ]; refine hK _ _ ?_; clear hK K)) | (refine Abs.step_skip rfl rfl (fun K hK => ?_); (simp only [Act.put, List.setIfInBounds_toArray, List.set_cons_zero, List.set_cons_succ]; refine hK _ _ ?_; clear hK K)))
    (refine Abs.step_store (T := ?_) rfl rfl rfl (fun w0 hI hF hU => ?_) (fun w0 hI hU hJ => ?_) (fun K hK => ?_); rotate_left; (· have hR := kp hI i4; have hg0 := (rcell hR).1; have hg1 := (rcell hR).2.1; simp only [Abs.T_setF, Abs.T_addA, Abs.T_push, Abs.T_start]; go_simp; exact r7_7 hR _ _ _ _ _ _ _); (· first | exact trivial | exact js hJ rfl _ | exact js hJ (Or.inl rfl) _ | exact js hJ (Or.inr rfl) _); (simp only [Act.put, List.setIfInBounds_toArray, List.set_cons_zero, List.set_cons_succ]; refine hK _ _ ?_; clear hK K))
    repeat (first | (refine Abs.step_pure rfl rfl (fun K hK => ?_); go_simp; (try go_bits); (first | refine hK _ _ ?_ | (simp only [↓IntWalk.iteOmega]; go_simp; (try go_bits); refine hK _ _ ?_)); clear hK K) | (refine Abs.step_late (v := ?_) rfl rfl (fun w0 hI => ?_) (fun K hK => ?_); rotate_left; (· have z0 := (rcell (kj hI i1 (by omega))).1; have z1 := (rcell (kj hI i2 (by omega))).1; go_simp; rfl); (simp only [Act.put, List.setIfInBounds_toArray, List.set_cons_zero, List.set_cons_succ]; refine hK _ _ ?_; clear hK K)) | (refine Abs.step_skip rfl rfl (fun K hK => ?_); (simp only [Act.put, List.setIfInBounds_toArray, List.set_cons_zero, List.set_cons_succ]; refine hK _ _ ?_; clear hK K)))
    intro w0 hI hF hx1 hx2
    clear hx1 hx2 hF
    simp only [Abs.T_push]
    generalize hT4 : setRow w0 _ _ = w4
    obtain ⟨hx4, f_o4⟩ := fin_x hI (i4) hT4
    clear hT4 hI w0
    have f_u4 := kx hx4 (i1) (by omega)
    have f_v4 := kx hx4 (i2) (by omega)
    have hB4 := bX i5 hx4 (by omega)
    clear zo_a zo_b zu_a zu_b zv_a zv_b
    obtain ⟨zu_a, zu_b, lu4⟩ := rcell f_u4
    obtain ⟨zv_a, zv_b, lv4⟩ := rcell f_v4
    obtain ⟨zo_a, zo_b, lo4⟩ := rcell f_o4
    have lD := (Array.getElem?_eq_some_iff.1 hK).1
    have hK' := (hx4.other D lD (by omega)).trans hK
    clear hK
    go_wp2_with fail
    have hp := turned_put w4 D (.deferred none)
    obtain ⟨zp, -, -⟩ := rcell (kt hp (f_o4) (by omega))
    refine marks_ret rfl hK' (v := .tuple #[.agg #[.int .i64 d.t, .int .i64 d.v, .int .i64 d.n0, .int .i64 d.d0, .int .i64 d.n1, .int .i64 d.d1, .int .i64 d.many], .bool (drOpen d)]) (by simp [results, Try.results34, go_sem, zp]; try rfl) ⟨by rw [HG.out]; rfl, ?_⟩
    exact hB4.trans (hp.low (by omega))
  case stop =>
    rintro D c' pre W hD ⟨k, hk, rfl⟩ ⟨rfl, hm, hi⟩ hK
    have hkl : k + 1 = l.length := by
      rw [lastD_upto] at hm
      have h1 : (dl l k).1.many = ((k + 1 : Nat) : Int) := dk_many l (k + 1) (by omega)
      rw [h1] at hm
      omega
    rw [hkl] at hi
    clear hm hkl hk
    have hx : lastD (upto (dl l) l.length) = dl l (l.length - 1) := by rw [show l.length = (l.length - 1) + 1 by omega, lastD_upto]; rfl
    have hd : dl l (l.length - 1) = (dk l l.length, drOpen (dk l l.length)) := by unfold dl; rw [show l.length - 1 + 1 = l.length by omega]
    rw [hd] at hx
    obtain ⟨i1, i2, i3, i4, i5⟩ := hi
    rw [hx] at i1 i2
    clear hx hd
    generalize hgen : dk l l.length = d at *
    have HG := hide hgen
    clear hgen
    simp only [Dr.cs, dr0] at i1 i4 ⊢
    go_wp2_with fail
    obtain ⟨zo_a, zo_b, lo1⟩ := rcell i4
    obtain ⟨zu_a, zu_b, lu2⟩ := rcell i1
    obtain ⟨zv_a, zv_b, lv3⟩ := rcell i2
    refine Abs.wp_region_abs (Abs.cls _ (fun k => k = w.heap.size + 1)) [0, 1, 2, 3] (by kernel_rfl) (by kernel_rfl) (Below.refl _ _).drew ?_
    repeat (first | (refine Abs.step_pure rfl rfl (fun K hK => ?_); go_simp; (try go_bits); (first | refine hK _ _ ?_ | (simp only [↓IntWalk.iteOmega]; go_simp; (try go_bits); refine hK _ _ ?_)); clear hK K) | (refine Abs.step_late (v := ?_) rfl rfl (fun w0 hI => ?_) (fun K hK => ?_); rotate_left; (· have z0 := (rcell (kj hI i1 (by omega))).1; have z1 := (rcell (kj hI i2 (by omega))).1; go_simp; rfl); (simp only [Act.put, List.setIfInBounds_toArray, List.set_cons_zero, List.set_cons_succ]; refine hK _ _ ?_; clear hK K)) | (refine Abs.step_skip rfl rfl (fun K hK => ?_); (simp only [Act.put, List.setIfInBounds_toArray, List.set_cons_zero, List.set_cons_succ]; refine hK _ _ ?_; clear hK K)))
    (refine Abs.step_store (T := ?_) rfl rfl rfl (fun w0 hI hF hU => ?_) (fun w0 hI hU hJ => ?_) (fun K hK => ?_); rotate_left; (· have hR := kp hI i4; have hg0 := (rcell hR).1; have hg1 := (rcell hR).2.1; simp only [Abs.T_setF, Abs.T_addA, Abs.T_push, Abs.T_start]; go_simp; exact r7_7 hR _ _ _ _ _ _ _); (· first | exact trivial | exact js hJ rfl _ | exact js hJ (Or.inl rfl) _ | exact js hJ (Or.inr rfl) _); (simp only [Act.put, List.setIfInBounds_toArray, List.set_cons_zero, List.set_cons_succ]; refine hK _ _ ?_; clear hK K))
    repeat (first | (refine Abs.step_pure rfl rfl (fun K hK => ?_); go_simp; (try go_bits); (first | refine hK _ _ ?_ | (simp only [↓IntWalk.iteOmega]; go_simp; (try go_bits); refine hK _ _ ?_)); clear hK K) | (refine Abs.step_late (v := ?_) rfl rfl (fun w0 hI => ?_) (fun K hK => ?_); rotate_left; (· have z0 := (rcell (kj hI i1 (by omega))).1; have z1 := (rcell (kj hI i2 (by omega))).1; go_simp; rfl); (simp only [Act.put, List.setIfInBounds_toArray, List.set_cons_zero, List.set_cons_succ]; refine hK _ _ ?_; clear hK K)) | (refine Abs.step_skip rfl rfl (fun K hK => ?_); (simp only [Act.put, List.setIfInBounds_toArray, List.set_cons_zero, List.set_cons_succ]; refine hK _ _ ?_; clear hK K)))
    intro w0 hI hF hx1 hx2
    clear hx1 hx2 hF
    simp only [Abs.T_push]
    generalize hT4 : setRow w0 _ _ = w4
    obtain ⟨hx4, f_o4⟩ := fin_x hI (i4) hT4
    clear hT4 hI w0
    have f_u4 := kx hx4 (i1) (by omega)
    have f_v4 := kx hx4 (i2) (by omega)
    have hB4 := bX i5 hx4 (by omega)
    clear zo_a zo_b zu_a zu_b zv_a zv_b
    obtain ⟨zu_a, zu_b, lu4⟩ := rcell f_u4
    obtain ⟨zv_a, zv_b, lv4⟩ := rcell f_v4
    obtain ⟨zo_a, zo_b, lo4⟩ := rcell f_o4
    have lD := (Array.getElem?_eq_some_iff.1 hK).1
    have hK' := (hx4.other D lD (by omega)).trans hK
    clear hK
    go_wp2_with fail
    have hp := turned_put w4 D (.deferred none)
    obtain ⟨zp, -, -⟩ := rcell (kt hp (f_o4) (by omega))
    refine marks_ret rfl hK' (v := .tuple #[.agg #[.int .i64 d.t, .int .i64 d.v, .int .i64 d.n0, .int .i64 d.d0, .int .i64 d.n1, .int .i64 d.d1, .int .i64 d.many], .bool (drOpen d)]) (by simp [results, Try.results34, go_sem, zp]; try rfl) ⟨by rw [HG.out]; rfl, ?_⟩
    exact hB4.trans (hp.low (by omega))
end Go.Proofs.Ytfdaabdibpcjeaa

namespace Go.Proofs.Ytfdaabdibpcjeaa
open Go.RowKit
attribute [local go_sem] Oper.semAt_some

/-- so many bands swing from the first one on -/
structure IsFirst (l : List Bd) (n : Nat) : Prop where
  le : n ≤ l.length
  yes : ∀ k, k < n → drOpen (dk l (k + 1)) = true
  no : n < l.length → drOpen (dk l (n + 1)) = false
theorem IsFirst.uniq {l : List Bd} {n m : Nat} (h : IsFirst l n) (h' : IsFirst l m) : n = m := by
  rcases Nat.lt_trichotomy n m with e | e | e
  · have h1 := h.no (Nat.lt_of_lt_of_le e h'.le)
    rw [h'.yes n e] at h1; cases h1
  · exact e
  · have h1 := h'.no (Nat.lt_of_lt_of_le e h.le)
    rw [h.yes m e] at h1; cases h1
theorem first_pos {l : List Bd} {n : Nat} (h : IsFirst l n) (h0 : 0 < l.length) : 0 < n := by
  rcases Nat.eq_zero_or_pos n with e | e
  · subst e
    have h1 := h.no h0
    rw [dk_succ l 0 h0] at h1
    have e2 : drOpen (drTake (dk l 0) l[0]) = true := by
      have : drTake (dk l 0) l[0] = ⟨l[0].t, hgB l[0], 0, 0, 0, 0, 1⟩ := rfl
      rw [this]; rfl
    rw [e2] at h1; cases h1
  · exact e
theorem lastD_dk (l : List Bd) (k : Nat) : (lastD (upto (dl l) k)).1 = dk l k := by
  cases k with
  | zero => rfl
  | succ k => rw [lastD_upto]; rfl

/-- what first keeps between two rounds -/
def fiI (w : World) (pre : List (Dr × Bool)) (W : World) : Prop :=
  W.heap[w.heap.size + 1]? = some (.cells #[.int .i64 pre.length] 3 (0, 0)) ∧ W.heap[w.heap.size + 1 + 1]? = some (.cells (lastD pre).1.cs 72 (0, 0)) ∧
  W.heap[w.heap.size]? = some (.cells dr0.cs 72 (0, 0)) ∧ Below w.heap.size w W ∧ ∀ x ∈ pre, x.2 = true

theorem fiI.keep {w : World} {pre : List (Dr × Bool)} {B : Nat} {X Y : World} (h : fiI w pre X) (hB : w.heap.size + 3 ≤ B) (hb : Below B X Y) : fiI w pre Y := by
  obtain ⟨h1, h2, h3, h5, h6⟩ := h
  exact ⟨(hb.block _ (by omega)).trans h1, (hb.block _ (by omega)).trans h2, (hb.block _ (by omega)).trans h3, h5.trans (hb.mono (by omega)), h6⟩

theorem fiI.put {w : World} {pre : List (Dr × Bool)} {B : Nat} {W : World} (h : fiI w pre W) (hB : w.heap.size + 3 ≤ B) (d : Dr) (x : Int) (hx : x = ((pre.length + 1 : Nat) : Int)) :
    Upper B W ((((((((W.setCell ⟨w.heap.size + 1, 0, none⟩ (.int .i64 x)).setCell ⟨w.heap.size + 1 + 1, 0, none⟩ (.int .i64 d.t)).setCell ⟨w.heap.size + 1 + 1, 1, none⟩ (.int .i64 d.v)).setCell ⟨w.heap.size + 1 + 1, 2, none⟩ (.int .i64 d.n0)).setCell ⟨w.heap.size + 1 + 1, 3, none⟩ (.int .i64 d.d0)).setCell ⟨w.heap.size + 1 + 1, 4, none⟩ (.int .i64 d.n1)).setCell ⟨w.heap.size + 1 + 1, 5, none⟩ (.int .i64 d.d1)).setCell ⟨w.heap.size + 1 + 1, 6, none⟩ (.int .i64 d.many)).drew ∧
    fiI w (pre ++ [(d, true)]) ((((((((W.setCell ⟨w.heap.size + 1, 0, none⟩ (.int .i64 x)).setCell ⟨w.heap.size + 1 + 1, 0, none⟩ (.int .i64 d.t)).setCell ⟨w.heap.size + 1 + 1, 1, none⟩ (.int .i64 d.v)).setCell ⟨w.heap.size + 1 + 1, 2, none⟩ (.int .i64 d.n0)).setCell ⟨w.heap.size + 1 + 1, 3, none⟩ (.int .i64 d.d0)).setCell ⟨w.heap.size + 1 + 1, 4, none⟩ (.int .i64 d.n1)).setCell ⟨w.heap.size + 1 + 1, 5, none⟩ (.int .i64 d.d1)).setCell ⟨w.heap.size + 1 + 1, 6, none⟩ (.int .i64 d.many)).drew := by
  obtain ⟨i1, i2, i3, i4, i5⟩ := h
  unfold Dr.cs at i2
  rw [row1 i1]
  generalize hT1 : setRow W _ _ = W1
  obtain ⟨x1, f1⟩ := fin_x (b0 W) i1 hT1
  have k2 := kx x1 i2 (by omega)
  have k3 := kx x1 i3 (by omega)
  rw [r7_7 k2]
  generalize hT2 : setRow W1 _ _ = W2
  obtain ⟨x2, f2⟩ := fin_x (b0 W1) k2 hT2
  have u := (Upper.exc (B := B) x1 (by omega)).trans (Upper.exc x2 (by omega))
  have q1 := bX i4 x1 (by omega)
  have q2 := bX q1 x2 (by omega)
  have k4 := kx x2 k3 (by omega)
  have k1 := kx x2 f1 (by omega)
  refine ⟨⟨u.size, u.block⟩, ?_, ?_, k4, q2.drew, ?_⟩
  · rw [List.length_append, ← show x = ((pre.length + [(d, true)].length : Nat) : Int) by rw [hx]; rfl]; exact k1
  · rw [lastD_snoc]; exact f2
  · intro y hy
    rcases List.mem_append.1 hy with h | h
    · exact i5 y h
    · rw [List.mem_singleton.1 h]

set_option maxRecDepth 100000 in
set_option maxHeartbeats 2000000 in
theorem swing_first (A : Option Addr) (c : Nat) (l : List Bd) (hok : okF (-1) l = true) (hl : l.length ≤ 256) (h0 : 0 < l.length) (w : World) (hR : BR w A c l) :
    Calls Try.prog 70 #[.slice A l.length c] w fun e w' => ∃ n : Nat, IsFirst l n ∧ e = .returned (.tuple #[.int .i64 n, .agg (dk l n).cs]) ∧ Below w.heap.size w w' := by
  refine calls_of_wp_marks Try.func70 rfl ?_
  simp only [Try.ntmps70, List.size_toArray, List.length_cons, List.length_nil, Nat.reduceAdd, Nat.reduceSub, Array.replicate_succ, Array.replicate_zero, List.push_toArray, List.append_toArray, List.nil_append, List.cons_append]
  go_wp2_with fail
  refine wp_scope_straight ?_
  go_wp2_with fail
  refine wp_label ?_
  go_wp2_with fail
  refine (swing_doors _ _ _ _).mono ?_
  rintro e w' ⟨rfl, rfl⟩
  go_wp2_with fail
  generalize hW0 : (((w.alloc (.cells #[.int .i64 0, .int .i64 0, .int .i64 0, .int .i64 0, .int .i64 0, .int .i64 0, .int .i64 0] 72)).alloc (.cells #[.int .i64 0] 3)).alloc (.cells #[.int .i64 0, .int .i64 0, .int .i64 0, .int .i64 0, .int .i64 0, .int .i64 0, .int .i64 0] 72)).alloc (.cells #[.slice A l.length c] 24) = W0
  have hs0 : W0.heap.size = w.heap.size + 4 := by rw [← hW0]; simp
  have hI0 : fiI w [] W0 := by
    rw [← hW0]
    exact ⟨ka (ka (na1 w _ _ _) _) _, ka (na2 w _ _ _ _) _, ka (ka (ka (na w _ _) _) _) _, bA (bA (bA (bA (b0 w) _) _) _) _, fun _ h => by cases h⟩
  have hB0 : W0.heap[w.heap.size + 1 + 1 + 1]? = some (.cells #[.slice A l.length c] 24 (0, 0)) := by
    rw [← hW0]; exact na3 w _ _ _ _ _
  clear hW0
  refine wp_rangeFunc_seq rfl (enters_of Try.func84 (by kernel_rfl) rfl) (doors_seq _ c A l hok hl W0 hB0 h0) (fun _ => rfl)
    (fiI w) (fun c' pre W => c' = .exit 0 ∧ ∃ ini x, pre = ini ++ [x] ∧ x.2 = false ∧ fiI w ini W) (fun s X Y h hb => h.keep (by omega) hb) (by rintro c' s X Y ⟨h1, ini, x, h2, h3, h4⟩ hb; exact ⟨h1, ini, x, h2, h3, h4.keep (by omega) hb⟩) (fun s X h => hR.below h.2.2.2.1) hI0 ?round ?done ?stop
  case round =>
    rintro l' pre ⟨d, is⟩ W K hl1 hl2 hi hlen hK
    have e1 : encD (d, is) = #[.agg #[.int .i64 d.t, .int .i64 d.v, .int .i64 d.n0, .int .i64 d.d0, .int .i64 d.n1, .int .i64 d.d1, .int .i64 d.many], .bool is] := rfl
    rw [e1]
    gi_wp2
    refine hK _ _ (bA (b0 _) _) ?_
    clear hK
    intro W₂ hT
    have hi2 : fiI w pre W₂ := (hi.keep (B := W.heap.size) (by omega) (bA (b0 W) _)).keep (B := w.heap.size + 3) (Nat.le_refl _) (hT.low (by omega))
    have hbx := kt hT (na W #[.int .i64 d.t, .int .i64 d.v, .int .i64 d.n0, .int .i64 d.d0, .int .i64 d.n1, .int .i64 d.d1, .int .i64 d.many] 72) (by omega)
    obtain ⟨zx1, zx2, zx3⟩ := rcell hbx
    have hi3 := hi2
    obtain ⟨i1, i2, i3, i4, i5⟩ := hi2
    have j1 := i2
    unfold Dr.cs at j1
    obtain ⟨za1, za2, za3⟩ := rcell j1
    obtain ⟨zb1, zb2, zb3⟩ := rcell i1
    clear hi
    have hlen2 : pre.length < 256 := by omega
    cases is
    · have HI := hide hi3
      clear i1 i2 i3 i4 i5 j1 hi3
      gi_wp2
      exact ⟨Upper.refl _ _, rfl, _, _, rfl, rfl, HI.out⟩
    · have HP := hide (fun x hx => hi3.put (B := W0.heap.size) (by omega) d x hx)
      have hw1 : IntKind.i64.wrap ((pre.length : Int) + 1) = ((pre.length + 1 : Nat) : Int) := by rw [IntWalk.i64_in _ (by omega)]; omega
      have HW := hide hw1
      clear i1 i2 i3 i4 i5 j1 hi3 hw1
      gi_wp2
      gi_region
      all_goals exact HP.out _ HW.out
  case done =>
    rintro D xs W hD rfl hi hK
    have hF : IsFirst l l.length := ⟨Nat.le_refl _, fun k hk => by
      have := hi.2.2.2.2 (dl l k) (by unfold upto; exact List.mem_map.2 ⟨k, List.mem_range.2 hk, rfl⟩)
      exact this, fun h => absurd h (Nat.lt_irrefl _)⟩
    obtain ⟨i1, i2, i3, i4, -⟩ := hi
    rw [upto_length] at i1
    rw [lastD_dk] at i2
    generalize hn : l.length = n at hF i1 i2
    have HF := hide hF
    clear hF hn
    generalize hgen : dk l n = d at i2
    have HG := hide hgen
    clear hgen
    simp only [Dr.cs, dr0] at i2 i3
    go_wp2_with fail
    obtain ⟨zo_a, zo_b, lo1⟩ := rcell i3
    obtain ⟨zu_a, zu_b, lu2⟩ := rcell i1
    obtain ⟨zv_a, zv_b, lv3⟩ := rcell i2
    refine Abs.wp_region_abs (Abs.cls _ (fun k => k = w.heap.size)) [0, 1, 2, 3] (by kernel_rfl) (by kernel_rfl) (Below.refl _ _).drew ?_
    repeat (first | (refine Abs.step_pure rfl rfl (fun K hK => ?_); go_simp; (try go_bits); (first | refine hK _ _ ?_ | (simp only [↓IntWalk.iteOmega]; go_simp; (try go_bits); refine hK _ _ ?_)); clear hK K) | (refine Abs.step_late (v := ?_) rfl rfl (fun w0 hI => ?_) (fun K hK => ?_); rotate_left; (· have z0 := (rcell (kj hI i1 (by omega))).1; have z1 := (rcell (kj hI i2 (by omega))).1; go_simp; rfl); (simp only [Act.put, List.setIfInBounds_toArray, List.set_cons_zero, List.set_cons_succ]; refine hK _ _ ?_; clear hK K)) | (refine Abs.step_skip rfl rfl (fun K hK => ?_); (simp only [Act.put, List.setIfInBounds_toArray, List.set_cons_zero, List.set_cons_succ]; refine hK _ _ ?_; clear hK K)))
    (refine Abs.step_store (T := ?_) rfl rfl rfl (fun w0 hI hF hU => ?_) (fun w0 hI hU hJ => ?_) (fun K hK => ?_); rotate_left; (· have hR := kp hI i3; have hg0 := (rcell hR).1; have hg1 := (rcell hR).2.1; simp only [Abs.T_setF, Abs.T_addA, Abs.T_push, Abs.T_start]; go_simp; exact r7_7 hR _ _ _ _ _ _ _); (· first | exact trivial | exact js hJ rfl _ | exact js hJ (Or.inl rfl) _ | exact js hJ (Or.inr rfl) _); (simp only [Act.put, List.setIfInBounds_toArray, List.set_cons_zero, List.set_cons_succ]; refine hK _ _ ?_; clear hK K))
    repeat (first | (refine Abs.step_pure rfl rfl (fun K hK => ?_); go_simp; (try go_bits); (first | refine hK _ _ ?_ | (simp only [↓IntWalk.iteOmega]; go_simp; (try go_bits); refine hK _ _ ?_)); clear hK K) | (refine Abs.step_late (v := ?_) rfl rfl (fun w0 hI => ?_) (fun K hK => ?_); rotate_left; (· have z0 := (rcell (kj hI i1 (by omega))).1; have z1 := (rcell (kj hI i2 (by omega))).1; go_simp; rfl); (simp only [Act.put, List.setIfInBounds_toArray, List.set_cons_zero, List.set_cons_succ]; refine hK _ _ ?_; clear hK K)) | (refine Abs.step_skip rfl rfl (fun K hK => ?_); (simp only [Act.put, List.setIfInBounds_toArray, List.set_cons_zero, List.set_cons_succ]; refine hK _ _ ?_; clear hK K)))
    intro w0 hI hF hx1 hx2
    clear hx1 hx2 hF
    simp only [Abs.T_push]
    generalize hT4 : setRow w0 _ _ = w4
    obtain ⟨hx4, f_o4⟩ := fin_x hI (i3) hT4
    clear hT4 hI w0
    have f_u4 := kx hx4 (i1) (by omega)
    have f_v4 := kx hx4 (i2) (by omega)
    have hB4 := bX i4 hx4 (by omega)
    clear zo_a zo_b zu_a zu_b zv_a zv_b
    obtain ⟨zu_a, zu_b, lu4⟩ := rcell f_u4
    obtain ⟨zv_a, zv_b, lv4⟩ := rcell f_v4
    obtain ⟨zo_a, zo_b, lo4⟩ := rcell f_o4
    have lD := (Array.getElem?_eq_some_iff.1 hK).1
    have hK' := (hx4.other D lD (by omega)).trans hK
    clear hK
    go_wp2_with fail
    have hp := turned_put w4 D (.deferred none)
    obtain ⟨zp, -, -⟩ := rcell (kt hp (f_o4) (by omega))
    refine marks_ret rfl hK' (v := .tuple #[.int .i64 n, .agg #[.int .i64 d.t, .int .i64 d.v, .int .i64 d.n0, .int .i64 d.d0, .int .i64 d.n1, .int .i64 d.d1, .int .i64 d.many]]) (by simp [results, Try.results70, go_sem, zp]; try rfl) ⟨n, HF.out, by rw [HG.out]; rfl, ?_⟩
    exact hB4.trans (hp.low (by omega))
  case stop =>
    rintro D c' pre W hD ⟨k, hk, rfl⟩ ⟨rfl, ini, x, hx, hx2, hi⟩ hK
    rw [upto_succ] at hx
    obtain ⟨rfl, hx3⟩ := List.append_inj' hx rfl
    obtain rfl : dl l k = x := by simpa using hx3
    have hF : IsFirst l k := ⟨Nat.le_of_lt hk, fun j hj => by
      have := hi.2.2.2.2 (dl l j) (by unfold upto; exact List.mem_map.2 ⟨j, List.mem_range.2 hj, rfl⟩)
      exact this, fun _ => hx2⟩
    obtain ⟨i1, i2, i3, i4, -⟩ := hi
    rw [upto_length] at i1
    rw [lastD_dk] at i2
    clear hx hx3 hx2
    generalize hn : k = n at hF i1 i2
    have HF := hide hF
    clear hF hn
    generalize hgen : dk l n = d at i2
    have HG := hide hgen
    clear hgen
    simp only [Dr.cs, dr0] at i2 i3
    go_wp2_with fail
    obtain ⟨zo_a, zo_b, lo1⟩ := rcell i3
    obtain ⟨zu_a, zu_b, lu2⟩ := rcell i1
    obtain ⟨zv_a, zv_b, lv3⟩ := rcell i2
    refine Abs.wp_region_abs (Abs.cls _ (fun k => k = w.heap.size)) [0, 1, 2, 3] (by kernel_rfl) (by kernel_rfl) (Below.refl _ _).drew ?_
    repeat (first | (refine Abs.step_pure rfl rfl (fun K hK => ?_); go_simp; (try go_bits); (first | refine hK _ _ ?_ | (simp only [↓IntWalk.iteOmega]; go_simp; (try go_bits); refine hK _ _ ?_)); clear hK K) | (refine Abs.step_late (v := ?_) rfl rfl (fun w0 hI => ?_) (fun K hK => ?_); rotate_left; (· have z0 := (rcell (kj hI i1 (by omega))).1; have z1 := (rcell (kj hI i2 (by omega))).1; go_simp; rfl); (simp only [Act.put, List.setIfInBounds_toArray, List.set_cons_zero, List.set_cons_succ]; refine hK _ _ ?_; clear hK K)) | (refine Abs.step_skip rfl rfl (fun K hK => ?_); (simp only [Act.put, List.setIfInBounds_toArray, List.set_cons_zero, List.set_cons_succ]; refine hK _ _ ?_; clear hK K)))
    (refine Abs.step_store (T := ?_) rfl rfl rfl (fun w0 hI hF hU => ?_) (fun w0 hI hU hJ => ?_) (fun K hK => ?_); rotate_left; (· have hR := kp hI i3; have hg0 := (rcell hR).1; have hg1 := (rcell hR).2.1; simp only [Abs.T_setF, Abs.T_addA, Abs.T_push, Abs.T_start]; go_simp; exact r7_7 hR _ _ _ _ _ _ _); (· first | exact trivial | exact js hJ rfl _ | exact js hJ (Or.inl rfl) _ | exact js hJ (Or.inr rfl) _); (simp only [Act.put, List.setIfInBounds_toArray, List.set_cons_zero, List.set_cons_succ]; refine hK _ _ ?_; clear hK K))
    repeat (first | (refine Abs.step_pure rfl rfl (fun K hK => ?_); go_simp; (try go_bits); (first | refine hK _ _ ?_ | (simp only [↓IntWalk.iteOmega]; go_simp; (try go_bits); refine hK _ _ ?_)); clear hK K) | (refine Abs.step_late (v := ?_) rfl rfl (fun w0 hI => ?_) (fun K hK => ?_); rotate_left; (· have z0 := (rcell (kj hI i1 (by omega))).1; have z1 := (rcell (kj hI i2 (by omega))).1; go_simp; rfl); (simp only [Act.put, List.setIfInBounds_toArray, List.set_cons_zero, List.set_cons_succ]; refine hK _ _ ?_; clear hK K)) | (refine Abs.step_skip rfl rfl (fun K hK => ?_); (simp only [Act.put, List.setIfInBounds_toArray, List.set_cons_zero, List.set_cons_succ]; refine hK _ _ ?_; clear hK K)))
    intro w0 hI hF hx1 hx2
    clear hx1 hx2 hF
    simp only [Abs.T_push]
    generalize hT4 : setRow w0 _ _ = w4
    obtain ⟨hx4, f_o4⟩ := fin_x hI (i3) hT4
    clear hT4 hI w0
    have f_u4 := kx hx4 (i1) (by omega)
    have f_v4 := kx hx4 (i2) (by omega)
    have hB4 := bX i4 hx4 (by omega)
    clear zo_a zo_b zu_a zu_b zv_a zv_b
    obtain ⟨zu_a, zu_b, lu4⟩ := rcell f_u4
    obtain ⟨zv_a, zv_b, lv4⟩ := rcell f_v4
    obtain ⟨zo_a, zo_b, lo4⟩ := rcell f_o4
    have lD := (Array.getElem?_eq_some_iff.1 hK).1
    have hK' := (hx4.other D lD (by omega)).trans hK
    clear hK
    go_wp2_with fail
    have hp := turned_put w4 D (.deferred none)
    obtain ⟨zp, -, -⟩ := rcell (kt hp (f_o4) (by omega))
    refine marks_ret rfl hK' (v := .tuple #[.int .i64 n, .agg #[.int .i64 d.t, .int .i64 d.v, .int .i64 d.n0, .int .i64 d.d0, .int .i64 d.n1, .int .i64 d.d1, .int .i64 d.many]]) (by simp [results, Try.results70, go_sem, zp]; try rfl) ⟨n, HF.out, by rw [HG.out]; rfl, ?_⟩
    exact hB4.trans (hp.low (by omega))
end Go.Proofs.Ytfdaabdibpcjeaa

namespace Go.Proofs.Ytfdaabdibpcjeaa
open Go.RowKit

/-- the slope of a door's line -/
def flN (d : Dr) : Int := if d.many = 1 then 0 else nrN d.n0 d.d0 d.n1 d.d1
def flD (d : Dr) : Int := if d.many = 1 then 1 else nrD d.n0 d.d0 d.n1 d.d1
theorem nr_low {a b c d : Int} (h : Low a b) (h' : Low c d) : Low (nrN a b c d) (nrD a b c d) := by
  unfold nrN nrD
  split
  · rw [h.2.1, h.2.2]; exact h
  · split
    · rw [h'.2.1, h'.2.2]; exact h'
    · exact ⟨rfl, rfl, rfl⟩
theorem fl_low {d : Dr} {last : Int} (hd : DrOk d last) : Low (flN d) (flD d) := by
  unfold flN flD
  split
  · exact ⟨rfl, rfl, rfl⟩
  · next h => exact nr_low (hd.two h).1 (hd.two h).2

set_option maxRecDepth 100000 in
set_option maxHeartbeats 1000000 in
theorem door_line_1 (g : Nat) (dt dv n0 d0 n1 d1 : Int) (hv : bkB dv = true) (w : World)
    (hg : w.heap[g]? = some (.cells #[.int .i64 dt, .int .i64 dv, .int .i64 n0, .int .i64 d0, .int .i64 n1, .int .i64 d1, .int .i64 1] 72 (0, 0))) :
    Calls Try.prog 35 #[.pointer (some ⟨g, 0, none⟩)] w fun e w' => e = .returned (.agg #[.int .i64 dv, .int .i64 0, .int .i64 0, .int .i64 1]) ∧ Below w.heap.size w w' := by
  have c1 := line_Of_yes dv 0 1 hv rfl
  rw [show lwN 0 1 = 0 by decide, show lwD 0 1 = 1 by decide] at c1
  go_enter Try.func35, Try.ntmps35
  obtain ⟨zg_a, zg_b, lg0⟩ := rcell hg
  go_wp2_with fail
  have f_g1 := (ka (ka (hg) (.cells #[.int .i64 0, .int .i64 0, .int .i64 0, .int .i64 0] 23)) (.cells #[.int .i64 0, .int .i64 1] 52))
  have f_o1 := (ka (na w #[.int .i64 0, .int .i64 0, .int .i64 0, .int .i64 0] 23) (.cells #[.int .i64 0, .int .i64 1] 52))
  have f_s1 := (na1 w (.cells #[.int .i64 0, .int .i64 0, .int .i64 0, .int .i64 0] 23) #[.int .i64 0, .int .i64 1] 52)
  have hB1 := (bA (bA (b0 w) (.cells #[.int .i64 0, .int .i64 0, .int .i64 0, .int .i64 0] 23)) (.cells #[.int .i64 0, .int .i64 1] 52))
  clear zg_a zg_b
  have lg1 := (rcell f_g1).2.2
  have lo1 := (rcell f_o1).2.2
  have ls1 := (rcell f_s1).2.2
  refine Abs.wp_region_abs (Abs.cls0 _) [0, 1, 2, 3, 4, 5, 6, 7, 8, 9, 10, 11, 12] (by kernel_rfl) (by kernel_rfl) (Below.refl _ _).drew ?_
  repeat (first | (refine Abs.step_pure rfl rfl (fun K hK => ?_); go_simp; (try go_bits); (first | refine hK _ _ ?_ | (simp only [↓IntWalk.iteOmega]; go_simp; (try go_bits); refine hK _ _ ?_)); clear hK K) | (refine Abs.step_load (v := ?_) rfl rfl (by kernel_rfl) rfl (fun w0 hI => ?_) (fun K hK => ?_); rotate_left; (· have z0 := (rcell (kp hI (f_g1))).1; have z1 := (rcell (kp hI (f_s1))).1; have z2 := (rcell (kp hI (f_o1))).1; go_simp; rfl); (simp only [Act.put, List.setIfInBounds_toArray, List.set_cons_zero, List.set_cons_succ]; refine hK _ _ ?_; clear hK K)) | (refine Abs.step_skip rfl rfl (fun K hK => ?_); (simp only [Act.put, List.setIfInBounds_toArray, List.set_cons_zero, List.set_cons_succ]; refine hK _ _ ?_; clear hK K)))
  (refine Abs.step_call_val (f := ?_) (args := ?_) (v := ?_) rfl rfl rfl rfl (fun w0 => ?_) (fun w0 hI => ?_) (fun K hK => ?_); rotate_left 3; (· go_simp; (constructor <;> rfl)); (· exact c1 _); (simp only [Act.put, List.setIfInBounds_toArray, List.set_cons_zero, List.set_cons_succ]; refine hK _ _ ?_; clear hK K))
  repeat (first | (refine Abs.step_pure rfl rfl (fun K hK => ?_); go_simp; (try go_bits); (first | refine hK _ _ ?_ | (simp only [↓IntWalk.iteOmega]; go_simp; (try go_bits); refine hK _ _ ?_)); clear hK K) | (refine Abs.step_load (v := ?_) rfl rfl (by kernel_rfl) rfl (fun w0 hI => ?_) (fun K hK => ?_); rotate_left; (· have z0 := (rcell (kp hI (f_g1))).1; have z1 := (rcell (kp hI (f_s1))).1; have z2 := (rcell (kp hI (f_o1))).1; go_simp; rfl); (simp only [Act.put, List.setIfInBounds_toArray, List.set_cons_zero, List.set_cons_succ]; refine hK _ _ ?_; clear hK K)) | (refine Abs.step_skip rfl rfl (fun K hK => ?_); (simp only [Act.put, List.setIfInBounds_toArray, List.set_cons_zero, List.set_cons_succ]; refine hK _ _ ?_; clear hK K)))
  (refine Abs.step_var (obj := ?_) rfl rfl rfl rfl (fun w0 => ?_) (fun K hK g_x hv_x hu_x => ?_); rotate_left; (· go_simp; rfl); (simp only [Act.put, List.setIfInBounds_toArray, List.set_cons_zero, List.set_cons_succ]; refine hK _ _ ?_; clear hK K))
  repeat (first | (refine Abs.step_pure rfl rfl (fun K hK => ?_); go_simp; (try go_bits); (first | refine hK _ _ ?_ | (simp only [↓IntWalk.iteOmega]; go_simp; (try go_bits); refine hK _ _ ?_)); clear hK K) | (refine Abs.step_load (v := ?_) rfl rfl (by kernel_rfl) rfl (fun w0 hI => ?_) (fun K hK => ?_); rotate_left; (· have z0 := (rcell (kp hI (f_g1))).1; have z1 := (rcell (kp hI (f_s1))).1; have z2 := (rcell (kp hI (f_o1))).1; go_simp; rfl); (simp only [Act.put, List.setIfInBounds_toArray, List.set_cons_zero, List.set_cons_succ]; refine hK _ _ ?_; clear hK K)) | (refine Abs.step_skip rfl rfl (fun K hK => ?_); (simp only [Act.put, List.setIfInBounds_toArray, List.set_cons_zero, List.set_cons_succ]; refine hK _ _ ?_; clear hK K)))
  (refine Abs.step_store (T := ?_) rfl rfl rfl (fun w0 hI hF hU => ?_) (fun _ _ _ _ => trivial) (fun K hK => ?_); rotate_left; (· simp only [Abs.F_setF, Abs.F_addA, Abs.F_push, Abs.F_start, true_and] at hF; have hg0 := (rcell hF).1; have hg1 := (rcell hF).2.1; simp only [Abs.T_setF, Abs.T_addA, Abs.T_push, Abs.T_start]; go_simp; exact row4 hF _ _ _ _); (simp only [Act.put, List.setIfInBounds_toArray, List.set_cons_zero, List.set_cons_succ]; refine hK _ _ ?_; clear hK K))
  repeat (first | (refine Abs.step_pure rfl rfl (fun K hK => ?_); go_simp; (try go_bits); (first | refine hK _ _ ?_ | (simp only [↓IntWalk.iteOmega]; go_simp; (try go_bits); refine hK _ _ ?_)); clear hK K) | (refine Abs.step_load (v := ?_) rfl rfl (by kernel_rfl) rfl (fun w0 hI => ?_) (fun K hK => ?_); rotate_left; (· have z0 := (rcell (kp hI (f_g1))).1; have z1 := (rcell (kp hI (f_s1))).1; have z2 := (rcell (kp hI (f_o1))).1; go_simp; rfl); (simp only [Act.put, List.setIfInBounds_toArray, List.set_cons_zero, List.set_cons_succ]; refine hK _ _ ?_; clear hK K)) | (refine Abs.step_skip rfl rfl (fun K hK => ?_); (simp only [Act.put, List.setIfInBounds_toArray, List.set_cons_zero, List.set_cons_succ]; refine hK _ _ ?_; clear hK K)))
  have hs_x := leB hv_x
  try simp only [World.size_alloc] at hs_x
  intro w0 hI hF hx1 hx2
  clear hx1 hx2
  simp only [Abs.F_setF, Abs.F_addA, Abs.F_push, Abs.F_start, true_and, Abs.T_push] at hF ⊢
  generalize hT2 : setRow w0 _ _ = w2
  obtain ⟨hb2, f_x2⟩ := fin1 hI hv_x hF hT2
  clear hT2 hI hF w0
  have f_g2 := kp hb2 (f_g1)
  have f_o2 := kp hb2 (f_o1)
  have f_s2 := kp hb2 (f_s1)
  have hB2 := bB hB1 hb2
  obtain ⟨zg_a, zg_b, lg2⟩ := rcell f_g2
  obtain ⟨zo_a, zo_b, lo2⟩ := rcell f_o2
  obtain ⟨zs_a, zs_b, ls2⟩ := rcell f_s2
  obtain ⟨zx_a, zx_b, lx2⟩ := rcell f_x2
  go_wp2_with fail
  (rw [row4 (f_o2)]; generalize hT : setRow _ _ _ = wE; obtain ⟨hbE, hgE⟩ := ret_row hB2 (by omega) (f_o2) hT; have zE := (rcell hgE).1; clear hT; refine bodyPost_ret (by simp [results, Try.results35, go_sem, zE]; try rfl) rfl ?_)
  exact ⟨rfl, hbE⟩

set_option maxRecDepth 100000 in
set_option maxHeartbeats 1000000 in
theorem door_line_2 (g : Nat) (dt dv n0 d0 n1 d1 m N D : Int) (hv : bkB dv = true) (hm : 2 ≤ m) (hs : Low N D)
    (c0 : ∀ w, Calls Try.prog 63 #[.agg #[.int .i64 n0, .int .i64 d0], .agg #[.int .i64 n1, .int .i64 d1]] w fun e w' => e = .returned (.tuple #[.agg #[.int .i64 N, .int .i64 D], .int .i64 0]) ∧ Below w.heap.size w w') (w : World)
    (hg : w.heap[g]? = some (.cells #[.int .i64 dt, .int .i64 dv, .int .i64 n0, .int .i64 d0, .int .i64 n1, .int .i64 d1, .int .i64 m] 72 (0, 0))) :
    Calls Try.prog 35 #[.pointer (some ⟨g, 0, none⟩)] w fun e w' => e = .returned (.agg #[.int .i64 dv, .int .i64 0, .int .i64 N, .int .i64 D]) ∧ Below w.heap.size w w' := by
  have c1 := line_Of_yes dv N D hv hs.1
  rw [hs.2.1, hs.2.2] at c1
  have i0 := ends_at0
  have i1 := ends_at1
  go_enter Try.func35, Try.ntmps35
  obtain ⟨zg_a, zg_b, lg0⟩ := rcell hg
  go_wp2_with fail
  have f_g1 := (ka (ka (hg) (.cells #[.int .i64 0, .int .i64 0, .int .i64 0, .int .i64 0] 23)) (.cells #[.int .i64 0, .int .i64 1] 52))
  have f_o1 := (ka (na w #[.int .i64 0, .int .i64 0, .int .i64 0, .int .i64 0] 23) (.cells #[.int .i64 0, .int .i64 1] 52))
  have f_s1 := (na1 w (.cells #[.int .i64 0, .int .i64 0, .int .i64 0, .int .i64 0] 23) #[.int .i64 0, .int .i64 1] 52)
  have hB1 := (bA (bA (b0 w) (.cells #[.int .i64 0, .int .i64 0, .int .i64 0, .int .i64 0] 23)) (.cells #[.int .i64 0, .int .i64 1] 52))
  clear zg_a zg_b
  have lg1 := (rcell f_g1).2.2
  have lo1 := (rcell f_o1).2.2
  have ls1 := (rcell f_s1).2.2
  refine Abs.wp_region_abs (Abs.cls0 _) [0, 1, 2, 3, 4, 5, 6, 7, 8, 9, 10, 11, 12, 13, 14] (by kernel_rfl) (by kernel_rfl) (Below.refl _ _).drew ?_
  repeat (first | (refine Abs.step_pure rfl rfl (fun K hK => ?_); go_simp; (try go_bits); (first | refine hK _ _ ?_ | (simp only [↓IntWalk.iteOmega]; go_simp; (try go_bits); refine hK _ _ ?_)); clear hK K) | (refine Abs.step_load (v := ?_) rfl rfl (by kernel_rfl) rfl (fun w0 hI => ?_) (fun K hK => ?_); rotate_left; (· have z0 := (rcell (kp hI (f_g1))).1; have z1 := (rcell (kp hI (f_s1))).1; have z2 := (rcell (kp hI (f_o1))).1; go_simp; rfl); (simp only [Act.put, List.setIfInBounds_toArray, List.set_cons_zero, List.set_cons_succ]; refine hK _ _ ?_; clear hK K)) | (refine Abs.step_skip rfl rfl (fun K hK => ?_); (simp only [Act.put, List.setIfInBounds_toArray, List.set_cons_zero, List.set_cons_succ]; refine hK _ _ ?_; clear hK K)))
  (refine Abs.step_call_val (f := ?_) (args := ?_) (v := ?_) rfl rfl rfl rfl (fun w0 => ?_) (fun w0 hI => ?_) (fun K hK => ?_); rotate_left 3; (· go_simp; (constructor <;> rfl)); (· exact c0 _); (simp only [Act.put, List.setIfInBounds_toArray, List.set_cons_zero, List.set_cons_succ]; refine hK _ _ ?_; clear hK K))
  repeat (first | (refine Abs.step_pure rfl rfl (fun K hK => ?_); go_simp; (try go_bits); (first | refine hK _ _ ?_ | (simp only [↓IntWalk.iteOmega]; go_simp; (try go_bits); refine hK _ _ ?_)); clear hK K) | (refine Abs.step_load (v := ?_) rfl rfl (by kernel_rfl) rfl (fun w0 hI => ?_) (fun K hK => ?_); rotate_left; (· have z0 := (rcell (kp hI (f_g1))).1; have z1 := (rcell (kp hI (f_s1))).1; have z2 := (rcell (kp hI (f_o1))).1; go_simp; rfl); (simp only [Act.put, List.setIfInBounds_toArray, List.set_cons_zero, List.set_cons_succ]; refine hK _ _ ?_; clear hK K)) | (refine Abs.step_skip rfl rfl (fun K hK => ?_); (simp only [Act.put, List.setIfInBounds_toArray, List.set_cons_zero, List.set_cons_succ]; refine hK _ _ ?_; clear hK K)))
  (refine Abs.step_store (T := ?_) rfl rfl rfl (fun w0 hI hF hU => ?_) (fun w0 hI hU hJ => ?_) (fun K hK => ?_); rotate_left; (· have hR := kp hI (f_s1); have hg0 := (rcell hR).1; have hg1 := (rcell hR).2.1; simp only [Abs.T_setF, Abs.T_addA, Abs.T_push, Abs.T_start]; go_simp; exact row2 hR _ _); (· first | exact trivial | exact js hJ rfl _ | exact js hJ (Or.inl rfl) _ | exact js hJ (Or.inr rfl) _); (simp only [Act.put, List.setIfInBounds_toArray, List.set_cons_zero, List.set_cons_succ]; refine hK _ _ ?_; clear hK K))
  repeat (first | (refine Abs.step_pure rfl rfl (fun K hK => ?_); go_simp; (try go_bits); (first | refine hK _ _ ?_ | (simp only [↓IntWalk.iteOmega]; go_simp; (try go_bits); refine hK _ _ ?_)); clear hK K) | (refine Abs.step_load (v := ?_) rfl rfl (by kernel_rfl) rfl (fun w0 hI => ?_) (fun K hK => ?_); rotate_left; (· have z0 := (rcell (kp hI (f_g1))).1; have z1 := (rcell (kp hI (f_s1))).1; have z2 := (rcell (kp hI (f_o1))).1; go_simp; rfl); (simp only [Act.put, List.setIfInBounds_toArray, List.set_cons_zero, List.set_cons_succ]; refine hK _ _ ?_; clear hK K)) | (refine Abs.step_skip rfl rfl (fun K hK => ?_); (simp only [Act.put, List.setIfInBounds_toArray, List.set_cons_zero, List.set_cons_succ]; refine hK _ _ ?_; clear hK K)))
  intro w0 hI hF hx1 hx2
  clear hx1 hx2 hF
  simp only [Abs.T_push]
  generalize hT2 : setRow w0 _ _ = w2
  obtain ⟨hx2, f_s2⟩ := fin_x hI (f_s1) hT2
  clear hT2 hI w0
  have f_g2 := kx hx2 (f_g1) (by omega)
  have f_o2 := kx hx2 (f_o1) (by omega)
  have hB2 := bX hB1 hx2 (by omega)
  obtain ⟨zg_a, zg_b, lg2⟩ := rcell f_g2
  obtain ⟨zo_a, zo_b, lo2⟩ := rcell f_o2
  obtain ⟨zs_a, zs_b, ls2⟩ := rcell f_s2
  go_wp2_with fail
  refine Abs.wp_region_abs (Abs.cls0 _) [0, 1, 2, 3, 4, 5, 6, 7, 8, 9, 10, 11, 12] (by kernel_rfl) (by kernel_rfl) (Below.refl _ _).drew ?_
  repeat (first | (refine Abs.step_pure rfl rfl (fun K hK => ?_); go_simp; (try go_bits); (first | refine hK _ _ ?_ | (simp only [↓IntWalk.iteOmega]; go_simp; (try go_bits); refine hK _ _ ?_)); clear hK K) | (refine Abs.step_load (v := ?_) rfl rfl (by kernel_rfl) rfl (fun w0 hI => ?_) (fun K hK => ?_); rotate_left; (· have z0 := (rcell (kp hI (f_g2))).1; have z1 := (rcell (kp hI (f_s2))).1; have z2 := (rcell (kp hI (f_o2))).1; go_simp; rfl); (simp only [Act.put, List.setIfInBounds_toArray, List.set_cons_zero, List.set_cons_succ]; refine hK _ _ ?_; clear hK K)) | (refine Abs.step_skip rfl rfl (fun K hK => ?_); (simp only [Act.put, List.setIfInBounds_toArray, List.set_cons_zero, List.set_cons_succ]; refine hK _ _ ?_; clear hK K)))
  (refine Abs.step_call_val (f := ?_) (args := ?_) (v := ?_) rfl rfl rfl rfl (fun w0 => ?_) (fun w0 hI => ?_) (fun K hK => ?_); rotate_left 3; (· go_simp; (constructor <;> rfl)); (· exact c1 _); (simp only [Act.put, List.setIfInBounds_toArray, List.set_cons_zero, List.set_cons_succ]; refine hK _ _ ?_; clear hK K))
  repeat (first | (refine Abs.step_pure rfl rfl (fun K hK => ?_); go_simp; (try go_bits); (first | refine hK _ _ ?_ | (simp only [↓IntWalk.iteOmega]; go_simp; (try go_bits); refine hK _ _ ?_)); clear hK K) | (refine Abs.step_load (v := ?_) rfl rfl (by kernel_rfl) rfl (fun w0 hI => ?_) (fun K hK => ?_); rotate_left; (· have z0 := (rcell (kp hI (f_g2))).1; have z1 := (rcell (kp hI (f_s2))).1; have z2 := (rcell (kp hI (f_o2))).1; go_simp; rfl); (simp only [Act.put, List.setIfInBounds_toArray, List.set_cons_zero, List.set_cons_succ]; refine hK _ _ ?_; clear hK K)) | (refine Abs.step_skip rfl rfl (fun K hK => ?_); (simp only [Act.put, List.setIfInBounds_toArray, List.set_cons_zero, List.set_cons_succ]; refine hK _ _ ?_; clear hK K)))
  (refine Abs.step_var (obj := ?_) rfl rfl rfl rfl (fun w0 => ?_) (fun K hK g_x hv_x hu_x => ?_); rotate_left; (· go_simp; rfl); (simp only [Act.put, List.setIfInBounds_toArray, List.set_cons_zero, List.set_cons_succ]; refine hK _ _ ?_; clear hK K))
  repeat (first | (refine Abs.step_pure rfl rfl (fun K hK => ?_); go_simp; (try go_bits); (first | refine hK _ _ ?_ | (simp only [↓IntWalk.iteOmega]; go_simp; (try go_bits); refine hK _ _ ?_)); clear hK K) | (refine Abs.step_load (v := ?_) rfl rfl (by kernel_rfl) rfl (fun w0 hI => ?_) (fun K hK => ?_); rotate_left; (· have z0 := (rcell (kp hI (f_g2))).1; have z1 := (rcell (kp hI (f_s2))).1; have z2 := (rcell (kp hI (f_o2))).1; go_simp; rfl); (simp only [Act.put, List.setIfInBounds_toArray, List.set_cons_zero, List.set_cons_succ]; refine hK _ _ ?_; clear hK K)) | (refine Abs.step_skip rfl rfl (fun K hK => ?_); (simp only [Act.put, List.setIfInBounds_toArray, List.set_cons_zero, List.set_cons_succ]; refine hK _ _ ?_; clear hK K)))
  (refine Abs.step_store (T := ?_) rfl rfl rfl (fun w0 hI hF hU => ?_) (fun _ _ _ _ => trivial) (fun K hK => ?_); rotate_left; (· simp only [Abs.F_setF, Abs.F_addA, Abs.F_push, Abs.F_start, true_and] at hF; have hg0 := (rcell hF).1; have hg1 := (rcell hF).2.1; simp only [Abs.T_setF, Abs.T_addA, Abs.T_push, Abs.T_start]; go_simp; exact row4 hF _ _ _ _); (simp only [Act.put, List.setIfInBounds_toArray, List.set_cons_zero, List.set_cons_succ]; refine hK _ _ ?_; clear hK K))
  repeat (first | (refine Abs.step_pure rfl rfl (fun K hK => ?_); go_simp; (try go_bits); (first | refine hK _ _ ?_ | (simp only [↓IntWalk.iteOmega]; go_simp; (try go_bits); refine hK _ _ ?_)); clear hK K) | (refine Abs.step_load (v := ?_) rfl rfl (by kernel_rfl) rfl (fun w0 hI => ?_) (fun K hK => ?_); rotate_left; (· have z0 := (rcell (kp hI (f_g2))).1; have z1 := (rcell (kp hI (f_s2))).1; have z2 := (rcell (kp hI (f_o2))).1; go_simp; rfl); (simp only [Act.put, List.setIfInBounds_toArray, List.set_cons_zero, List.set_cons_succ]; refine hK _ _ ?_; clear hK K)) | (refine Abs.step_skip rfl rfl (fun K hK => ?_); (simp only [Act.put, List.setIfInBounds_toArray, List.set_cons_zero, List.set_cons_succ]; refine hK _ _ ?_; clear hK K)))
  have hs_x := leB hv_x
  try simp only [World.size_alloc] at hs_x
  intro w0 hI hF hx1 hx2
  clear hx1 hx2
  simp only [Abs.F_setF, Abs.F_addA, Abs.F_push, Abs.F_start, true_and, Abs.T_push] at hF ⊢
  generalize hT4 : setRow w0 _ _ = w4
  obtain ⟨hb4, f_x4⟩ := fin1 hI hv_x hF hT4
  clear hT4 hI hF w0
  have f_g4 := kp hb4 (f_g2)
  have f_o4 := kp hb4 (f_o2)
  have f_s4 := kp hb4 (f_s2)
  have hB4 := bB hB2 hb4
  clear zg_a zg_b zo_a zo_b zs_a zs_b
  obtain ⟨zg_a, zg_b, lg4⟩ := rcell f_g4
  obtain ⟨zo_a, zo_b, lo4⟩ := rcell f_o4
  obtain ⟨zs_a, zs_b, ls4⟩ := rcell f_s4
  obtain ⟨zx_a, zx_b, lx4⟩ := rcell f_x4
  go_wp2_with fail
  (rw [row4 (f_o4)]; generalize hT : setRow _ _ _ = wE; obtain ⟨hbE, hgE⟩ := ret_row hB4 (by omega) (f_o4) hT; have zE := (rcell hgE).1; clear hT; refine bodyPost_ret (by simp [results, Try.results35, go_sem, zE]; try rfl) rfl ?_)
  exact ⟨rfl, hbE⟩

theorem door_line (g : Nat) (d : Dr) (last : Int) (hd : DrOk d last) (ho : drOpen d = true) (w : World) (hg : w.heap[g]? = some (.cells d.cs 72 (0, 0))) :
    Calls Try.prog 35 #[.pointer (some ⟨g, 0, none⟩)] w fun e w' => e = .returned (.agg #[.int .i64 d.v, .int .i64 0, .int .i64 (flN d), .int .i64 (flD d)]) ∧ Below w.heap.size w w' := by
  have hl := fl_low hd
  by_cases hm : d.many = 1
  · rw [show flN d = 0 by unfold flN; rw [if_pos hm], show flD d = 1 by unfold flD; rw [if_pos hm]]
    have e : d.cs = #[.int .i64 d.t, .int .i64 d.v, .int .i64 d.n0, .int .i64 d.d0, .int .i64 d.n1, .int .i64 d.d1, .int .i64 1] := by unfold Dr.cs; rw [hm]
    rw [e] at hg
    exact door_line_1 g _ _ _ _ _ _ hd.v w hg
  · have e1 : flN d = nrN d.n0 d.d0 d.n1 d.d1 := by unfold flN; rw [if_neg hm]
    have e2 : flD d = nrD d.n0 d.d0 d.n1 d.d1 := by unfold flD; rw [if_neg hm]
    rw [e1, e2] at hl ⊢
    have hc : d.n0 * d.d1 ≤ d.n1 * d.d0 := by
      have := of_decide_eq_true ho
      omega
    have c0 := line_Nearest_yes d.n0 d.d0 d.n1 d.d1 (hd.two hm).1.1 (hd.two hm).2.1 hc
    exact door_line_2 g _ _ _ _ _ _ d.many _ _ hd.v (by have := hd.m1; omega) hl c0 w hg
end Go.Proofs.Ytfdaabdibpcjeaa

namespace Go.Proofs.Ytfdaabdibpcjeaa
open Go.RowKit

theorem okB_spec {l : List Bd} (h : okB l = true) : 0 < l.length ∧ l.length ≤ 256 ∧ okF (-1) l = true := by
  unfold okB at h
  simp only [Bool.and_eq_true, decide_eq_true_eq] at h
  exact ⟨h.1.1, h.1.2, h.2⟩
theorem okF_el {l : List Bd} (h : okF (-1) l = true) (k : Nat) (hk : k < l.length) : bdB (lastT (l.take k)) l[k] = true := by
  have ht := okF_take l k hk
  rw [okF_pre (-1) l (k + 1) h] at ht
  cases e : bdB (lastT (l.take k)) l[k]
  · rw [e, Bool.and_false] at ht; cases ht
  · rfl

theorem results_two {fn : Func} {t u : Tmp} (h : fn.results = #[.tmp t, .tmp u]) (tmps : Array Value) (P : Program) (w : World) : (results fn tmps).run P w = .ok (.tuple #[tmps.getD t undef, tmps.getD u undef]) w := by simp [results, h]

set_option maxRecDepth 100000 in
theorem swing_Hinge_no (A : Option Addr) (c : Nat) (l : List Bd) (h : okB l = false) (w : World) (hR : BR w A c l) :
    Calls Try.prog 24 #[.slice A l.length c] w fun e w' => e = .returned (.tuple #[.int .i64 0, .int .i64 180]) ∧ Below w.heap.size w w' := by
  have c1 := pmc_Check A c l w hR
  rw [chE_no h] at c1
  go_enter Try.func24, Try.ntmps24
  go_wp2_with fail
  refine (c1).mono ?_
  rintro e w1 ⟨rfl, hb1⟩
  have hB1 := bB (b0 w) hb1
  go_wp2
  go_ret2
  exact ⟨rfl, hB1⟩

theorem hinge_v (x y : Int) (w : World) : (Instr.field 69 (.agg #[.int .i64 x, .int .i64 y]) 1).run Try.prog w = .ok (.int .i64 y) w := by
  simp [Instr.field, part, run_underlying Try.underlying69, asAgg, go_sem]

set_option maxRecDepth 100000 in
theorem swing_Hinge_in (g o c : Nat) (l : List Bd) (b : Bd) (cur : Array Value) (w : World) (hg : w.heap[g]? = some (.cells cur 38 (0, 0))) (e1 : cur[o]? = some (.int .i64 b.t)) (e2 : cur[o + 1]? = some (.int .i64 b.lo)) (e3 : cur[o + 2]? = some (.int .i64 b.hi)) (h1 : bkB b.lo = true) (h2 : bkB b.hi = true) (h0 : 0 < l.length)
    (c1 : Calls Try.prog 33 #[.slice (some ⟨g, o, none⟩) l.length c] w fun e w' => e = .returned (.int .i64 0) ∧ Below w.heap.size w w') :
    Calls Try.prog 24 #[.slice (some ⟨g, o, none⟩) l.length c] w fun e w' => e = .returned (.tuple #[.int .i64 (hgB b), .int .i64 0]) ∧ Below w.heap.size w w' := by
  have c2 := swing_at b h1 h2
  have hv := hinge_v
  go_enter Try.func24, Try.ntmps24
  obtain ⟨zg_a, zg_b, lg0⟩ := rcell hg
  go_wp2_with fail
  refine (c1).mono ?_
  rintro e w1 ⟨rfl, hb1⟩
  have f_g1 := kp hb1 (hg)
  have hB1 := bB (b0 w) hb1
  clear zg_a zg_b
  obtain ⟨zg_a, zg_b, lg1⟩ := rcell f_g1
  go_wp2_with fail
  refine (c2 _).mono ?_
  rintro e w2 ⟨rfl, hb2⟩
  have f_g2 := kp hb2 (f_g1)
  have hB2 := bB hB1 hb2
  clear zg_a zg_b
  obtain ⟨zg_a, zg_b, lg2⟩ := rcell f_g2
  go_wp2
  go_ret2
  exact ⟨rfl, hB2⟩

theorem swing_Hinge_yes (A : Option Addr) (c : Nat) (l : List Bd) (h : okB l = true) (w : World) (hR : BR w A c l) :
    Calls Try.prog 24 #[.slice A l.length c] w fun e w' => e = .returned (.tuple #[.int .i64 (hgB (l.headD ⟨0, 0, 0⟩)), .int .i64 0]) ∧ Below w.heap.size w w' := by
  obtain ⟨h0, h1, h2⟩ := okB_spec h
  have c1 := pmc_Check A c l w hR
  rw [chE_yes h] at c1
  obtain ⟨g, o, cur, rfl, hg, hc⟩ := hR.mem h0
  have he := hc 0 h0
  have hb := bdB_spec (okF_el h2 0 h0)
  have eh : l.headD ⟨0, 0, 0⟩ = l[0] := by cases l with | nil => simp at h0 | cons a l => rfl
  rw [eh]
  simp only [Nat.zero_mul, Nat.add_zero] at he
  exact swing_Hinge_in g o c l l[0] cur w hg he.1 he.2.1 he.2.2 hb.2.2.2.1 hb.2.2.2.2 h0 c1

set_option maxRecDepth 100000 in
theorem swing_Door_no (A : Option Addr) (c : Nat) (l : List Bd) (h : okB l = false) (w : World) (hR : BR w A c l) :
    Calls Try.prog 28 #[.slice A l.length c] w fun e w' => e = .returned (.tuple #[.agg #[.int .i64 0, .int .i64 0], .agg #[.int .i64 0, .int .i64 0], .int .i64 180]) ∧ Below w.heap.size w w' := by
  have c1 := pmc_Check A c l
  rw [chE_no h] at c1
  go_enter Try.func28, Try.ntmps28
  go_wp2_with fail
  refine (c1 _ (hR.below (bA (bA (b0 _) _) _))).mono ?_
  rintro e w1 ⟨rfl, hb1⟩
  have f_a1 := kp hb1 (ka (na w #[.int .i64 0, .int .i64 0] 52) (.cells #[.int .i64 0, .int .i64 0] 52))
  have f_b1 := kp hb1 (na1 w (.cells #[.int .i64 0, .int .i64 0] 52) #[.int .i64 0, .int .i64 0] 52)
  have hB1 := bB (bA (bA (b0 w) (.cells #[.int .i64 0, .int .i64 0] 52)) (.cells #[.int .i64 0, .int .i64 0] 52)) hb1
  obtain ⟨za_a, za_b, la1⟩ := rcell f_a1
  obtain ⟨zb_a, zb_b, lb1⟩ := rcell f_b1
  go_wp2
  rw [row2 (f_a1)]
  generalize hT1 : setRow _ _ _ = wE1
  obtain ⟨hxE1, hgE1⟩ := fin_x (b0 _) (f_a1) hT1
  have hfE1 := kx hxE1 (f_b1) (by omega)
  rw [row2 hfE1]
  generalize hT2 : setRow _ _ _ = wE
  obtain ⟨hxE2, hgE2⟩ := fin_x (b0 _) hfE1 hT2
  have hgE := kx hxE2 hgE1 (by omega)
  have hbE1 := bX hB1 hxE1 (by omega)
  have hbE := bX hbE1 hxE2 (by omega)
  have zE := (rcell hgE).1
  have zE2 := (rcell hgE2).1
  clear hT1 hT2
  refine bodyPost_ret (by simp [results, Try.results28, go_sem, zE, zE2]; try rfl) rfl ?_
  exact ⟨rfl, hbE⟩

set_option maxRecDepth 100000 in
theorem swing_Door_one (A : Option Addr) (c : Nat) (l : List Bd) (h : okB l = true) (h1 : l.length = 1) (w : World) (hR : BR w A c l) :
    Calls Try.prog 28 #[.slice A l.length c] w fun e w' => e = .returned (.tuple #[.agg #[.int .i64 0, .int .i64 0], .agg #[.int .i64 0, .int .i64 0], .int .i64 9]) ∧ Below w.heap.size w w' := by
  have c1 := pmc_Check A c l
  rw [chE_yes h] at c1
  have HR := hide hR
  rw [h1] at c1 ⊢
  clear h1 hR
  go_enter Try.func28, Try.ntmps28
  go_wp2_with fail
  refine (c1 _ (HR.out.below (bA (bA (b0 _) _) _))).mono ?_
  rintro e w1 ⟨rfl, hb1⟩
  have f_a1 := kp hb1 (ka (na w #[.int .i64 0, .int .i64 0] 52) (.cells #[.int .i64 0, .int .i64 0] 52))
  have f_b1 := kp hb1 (na1 w (.cells #[.int .i64 0, .int .i64 0] 52) #[.int .i64 0, .int .i64 0] 52)
  have hB1 := bB (bA (bA (b0 w) (.cells #[.int .i64 0, .int .i64 0] 52)) (.cells #[.int .i64 0, .int .i64 0] 52)) hb1
  obtain ⟨za_a, za_b, la1⟩ := rcell f_a1
  obtain ⟨zb_a, zb_b, lb1⟩ := rcell f_b1
  go_wp2
  rw [row2 (f_a1)]
  generalize hT1 : setRow _ _ _ = wE1
  obtain ⟨hxE1, hgE1⟩ := fin_x (b0 _) (f_a1) hT1
  have hfE1 := kx hxE1 (f_b1) (by omega)
  rw [row2 hfE1]
  generalize hT2 : setRow _ _ _ = wE
  obtain ⟨hxE2, hgE2⟩ := fin_x (b0 _) hfE1 hT2
  have hgE := kx hxE2 hgE1 (by omega)
  have hbE1 := bX hB1 hxE1 (by omega)
  have hbE := bX hbE1 hxE2 (by omega)
  have zE := (rcell hgE).1
  have zE2 := (rcell hgE2).1
  clear hT1 hT2
  refine bodyPost_ret (by simp [results, Try.results28, go_sem, zE, zE2]; try rfl) rfl ?_
  exact ⟨rfl, hbE⟩

set_option maxRecDepth 100000 in
set_option maxHeartbeats 1000000 in
theorem swing_Door_yes (A : Option Addr) (c : Nat) (l : List Bd) (h : okB l = true) (h1 : 2 ≤ l.length) (w : World) (hR : BR w A c l) :
    Calls Try.prog 28 #[.slice A l.length c] w fun e w' => e = .returned (.tuple #[.agg #[.int .i64 (dk l l.length).n0, .int .i64 (dk l l.length).d0], .agg #[.int .i64 (dk l l.length).n1, .int .i64 (dk l l.length).d1], .int .i64 0]) ∧ Below w.heap.size w w' := by
  obtain ⟨k0, k1, k2⟩ := okB_spec h
  have c1 := pmc_Check A c l
  rw [chE_yes h] at c1
  have c2 := swing_whole A c l k2 k1 k0
  have n1 : ((l.length : Int) == 1) = false := by rw [beq_eq_false_iff_ne]; omega
  unfold Dr.cs at c2
  generalize dk l l.length = d at *
  generalize drOpen d = e at *
  obtain ⟨dt, dv, n0, d0, n1', d1, m⟩ := d
  simp only at c2 ⊢
  have i0 := ends_at0
  have i1 := ends_at1
  have HR := hide hR
  clear hR h h1 k0 k1 k2
  go_enter Try.func28, Try.ntmps28
  go_wp2_with fail
  refine (c1 _ (HR.out.below (bA (bA (b0 _) _) _))).mono ?_
  rintro e w1 ⟨rfl, hb1⟩
  have f_a1 := kp hb1 (ka (na w #[.int .i64 0, .int .i64 0] 52) (.cells #[.int .i64 0, .int .i64 0] 52))
  have f_b1 := kp hb1 (na1 w (.cells #[.int .i64 0, .int .i64 0] 52) #[.int .i64 0, .int .i64 0] 52)
  have hB1 := bB (bA (bA (b0 w) (.cells #[.int .i64 0, .int .i64 0] 52)) (.cells #[.int .i64 0, .int .i64 0] 52)) hb1
  obtain ⟨za_a, za_b, la1⟩ := rcell f_a1
  obtain ⟨zb_a, zb_b, lb1⟩ := rcell f_b1
  go_wp2_with fail
  refine (c2 _ (HR.out.below hB1)).mono ?_
  rintro e w2 ⟨rfl, hb2⟩
  have f_a2 := kp hb2 (f_a1)
  have f_b2 := kp hb2 (f_b1)
  have hB2 := bB hB1 hb2
  clear za_a za_b zb_a zb_b
  obtain ⟨za_a, za_b, la2⟩ := rcell f_a2
  obtain ⟨zb_a, zb_b, lb2⟩ := rcell f_b2
  go_wp2_with fail
  have f_a3 := (ka (f_a2) (.cells #[.int .i64 dt, .int .i64 dv, .int .i64 n0, .int .i64 d0, .int .i64 n1', .int .i64 d1, .int .i64 m] 72))
  have f_b3 := (ka (f_b2) (.cells #[.int .i64 dt, .int .i64 dv, .int .i64 n0, .int .i64 d0, .int .i64 n1', .int .i64 d1, .int .i64 m] 72))
  have f_d3 := (na w2 #[.int .i64 dt, .int .i64 dv, .int .i64 n0, .int .i64 d0, .int .i64 n1', .int .i64 d1, .int .i64 m] 72)
  have hB3 := (bA hB2 (.cells #[.int .i64 dt, .int .i64 dv, .int .i64 n0, .int .i64 d0, .int .i64 n1', .int .i64 d1, .int .i64 m] 72))
  clear za_a za_b zb_a zb_b
  have la3 := (rcell f_a3).2.2
  have lb3 := (rcell f_b3).2.2
  have ld3 := (rcell f_d3).2.2
  refine Abs.wp_region_abs (Abs.cls _ (fun k => k = w.heap.size ∨ k = w.heap.size + 1)) [0, 1, 2, 3, 4, 5, 6, 7, 8] (by kernel_rfl) (by kernel_rfl) (Below.refl _ _).drew ?_
  repeat (first | (refine Abs.step_pure rfl rfl (fun K hK => ?_); go_simp; (try go_bits); (first | refine hK _ _ ?_ | (simp only [↓IntWalk.iteOmega]; go_simp; (try go_bits); refine hK _ _ ?_)); clear hK K) | (refine Abs.step_late (v := ?_) rfl rfl (fun w0 hI => ?_) (fun K hK => ?_); rotate_left; (· have z0 := (rcell (kj hI (f_d3) (by omega))).1; go_simp; rfl); (simp only [Act.put, List.setIfInBounds_toArray, List.set_cons_zero, List.set_cons_succ]; refine hK _ _ ?_; clear hK K)) | (refine Abs.step_skip rfl rfl (fun K hK => ?_); (simp only [Act.put, List.setIfInBounds_toArray, List.set_cons_zero, List.set_cons_succ]; refine hK _ _ ?_; clear hK K)))
  (refine Abs.step_store (T := ?_) rfl rfl rfl (fun w0 hI hF hU => ?_) (fun w0 hI hU hJ => ?_) (fun K hK => ?_); rotate_left; (· have hR := kp hI (f_a3); have hg0 := (rcell hR).1; have hg1 := (rcell hR).2.1; simp only [Abs.T_setF, Abs.T_addA, Abs.T_push, Abs.T_start]; go_simp; exact row2 hR _ _); (· first | exact trivial | exact js hJ rfl _ | exact js hJ (Or.inl rfl) _ | exact js hJ (Or.inr rfl) _); (simp only [Act.put, List.setIfInBounds_toArray, List.set_cons_zero, List.set_cons_succ]; refine hK _ _ ?_; clear hK K))
  (refine Abs.step_store (T := ?_) rfl rfl rfl (fun w0 hI hF hU => ?_) (fun w0 hI hU hJ => ?_) (fun K hK => ?_); rotate_left; (· have hR := fun cs => (setRow_other (w := w0) (g := w.heap.size) cs (by omega)).trans (kp hI (f_b3)); have hg0 := fun cs => (rcell (hR cs)).1; have hg1 := fun cs => (rcell (hR cs)).2.1; simp only [Abs.T_setF, Abs.T_addA, Abs.T_push, Abs.T_start]; go_simp; exact row2 (hR _) _ _); (· first | exact trivial | exact js hJ rfl _ | exact js hJ (Or.inl rfl) _ | exact js hJ (Or.inr rfl) _); (simp only [Act.put, List.setIfInBounds_toArray, List.set_cons_zero, List.set_cons_succ]; refine hK _ _ ?_; clear hK K))
  repeat (first | (refine Abs.step_pure rfl rfl (fun K hK => ?_); go_simp; (try go_bits); (first | refine hK _ _ ?_ | (simp only [↓IntWalk.iteOmega]; go_simp; (try go_bits); refine hK _ _ ?_)); clear hK K) | (refine Abs.step_late (v := ?_) rfl rfl (fun w0 hI => ?_) (fun K hK => ?_); rotate_left; (· have z0 := (rcell (kj hI (f_d3) (by omega))).1; go_simp; rfl); (simp only [Act.put, List.setIfInBounds_toArray, List.set_cons_zero, List.set_cons_succ]; refine hK _ _ ?_; clear hK K)) | (refine Abs.step_skip rfl rfl (fun K hK => ?_); (simp only [Act.put, List.setIfInBounds_toArray, List.set_cons_zero, List.set_cons_succ]; refine hK _ _ ?_; clear hK K)))
  intro w0 hI hF hx1 hx2
  clear hx1 hx2 hF
  simp only [Abs.T_push]
  generalize hT4 : setRow w0 _ _ = w4
  obtain ⟨hx4, f_a4⟩ := fin_x hI (f_a3) hT4
  clear hT4 hI w0
  have f_b4 := kx hx4 (f_b3) (by omega)
  have f_d4 := kx hx4 (f_d3) (by omega)
  have hB4 := bX hB3 hx4 (by omega)
  obtain ⟨zb_a, zb_b, lb4⟩ := rcell f_b4
  obtain ⟨zd_a, zd_b, ld4⟩ := rcell f_d4
  obtain ⟨za_a, za_b, la4⟩ := rcell f_a4
  generalize hT5 : setRow w4 _ _ = w5
  obtain ⟨hx5, f_b5⟩ := fin_x (b0 _) f_b4 hT5
  clear hT5
  have f_d5 := kx hx5 (f_d4) (by omega)
  have f_a5 := kx hx5 (f_a4) (by omega)
  have hB5 := bX hB4 hx5 (by omega)
  clear za_a za_b zb_a zb_b zd_a zd_b
  obtain ⟨zd_a, zd_b, ld5⟩ := rcell f_d5
  obtain ⟨za_a, za_b, la5⟩ := rcell f_a5
  obtain ⟨zb_a, zb_b, lb5⟩ := rcell f_b5
  go_wp2_with fail
  refine bodyPost_ret (by simp [results, Try.results28, go_sem, za_a, zb_a]; try rfl) rfl ⟨rfl, hB5⟩

set_option maxRecDepth 100000 in
theorem swing_Fit_no (A : Option Addr) (c : Nat) (l : List Bd) (h : okB l = false) (w : World) (hR : BR w A c l) :
    Calls Try.prog 12 #[.slice A l.length c] w fun e w' => e = .returned (.tuple #[.agg #[.int .i64 0, .int .i64 0, .int .i64 0, .int .i64 0], .int .i64 180]) ∧ Below w.heap.size w w' := by
  have c1 := pmc_Check A c l
  rw [chE_no h] at c1
  go_enter Try.func12, Try.ntmps12
  go_wp2_with fail
  refine (c1 _ (hR.below (bA (b0 _) _))).mono ?_
  rintro e w1 ⟨rfl, hb1⟩
  have f_o1 := kp hb1 (na w #[.int .i64 0, .int .i64 0, .int .i64 0, .int .i64 0] 23)
  have hB1 := bB (bA (b0 w) (.cells #[.int .i64 0, .int .i64 0, .int .i64 0, .int .i64 0] 23)) hb1
  obtain ⟨zo_a, zo_b, lo1⟩ := rcell f_o1
  go_wp2
  (rw [row4 (f_o1)]; generalize hT : setRow _ _ _ = wE; obtain ⟨hbE, hgE⟩ := ret_row hB1 (by omega) (f_o1) hT; have zE := (rcell hgE).1; clear hT; refine bodyPost_ret (by simp [results, Try.results12, go_sem, zE]; try rfl) rfl ?_)
  exact ⟨rfl, hbE⟩
end Go.Proofs.Ytfdaabdibpcjeaa

namespace Go.Proofs.Ytfdaabdibpcjeaa
open Go.RowKit

set_option maxRecDepth 100000 in
set_option maxHeartbeats 1000000 in
theorem swing_Fit_shut (A : Option Addr) (c : Nat) (l : List Bd) (h : okB l = true) (ho : drOpen (dk l l.length) = false) (w : World) (hR : BR w A c l) :
    Calls Try.prog 12 #[.slice A l.length c] w fun e w' => e = .returned (.tuple #[.agg #[.int .i64 0, .int .i64 0, .int .i64 0, .int .i64 0], .int .i64 4]) ∧ Below w.heap.size w w' := by
  obtain ⟨k0, k1, k2⟩ := okB_spec h
  have c1 := pmc_Check A c l
  rw [chE_yes h] at c1
  have c2 := swing_whole A c l k2 k1 k0
  rw [ho] at c2
  unfold Dr.cs at c2
  generalize dk l l.length = d at *
  obtain ⟨dt, dv, n0, d0, n1', d1, m⟩ := d
  simp only at c2
  have HR := hide hR
  clear hR h k0 k1 k2 ho
  go_enter Try.func12, Try.ntmps12
  go_wp2_with fail
  refine (c1 _ (HR.out.below (bA (b0 _) _))).mono ?_
  rintro e w1 ⟨rfl, hb1⟩
  have f_o1 := kp hb1 (na w #[.int .i64 0, .int .i64 0, .int .i64 0, .int .i64 0] 23)
  have hB1 := bB (bA (b0 w) (.cells #[.int .i64 0, .int .i64 0, .int .i64 0, .int .i64 0] 23)) hb1
  obtain ⟨zo_a, zo_b, lo1⟩ := rcell f_o1
  go_wp2_with fail
  refine (c2 _ (HR.out.below hB1)).mono ?_
  rintro e w2 ⟨rfl, hb2⟩
  have f_o2 := kp hb2 (f_o1)
  have hB2 := bB hB1 hb2
  clear zo_a zo_b
  obtain ⟨zo_a, zo_b, lo2⟩ := rcell f_o2
  go_wp2_with fail
  rw [row4 f_o2]
  generalize hT3 : setRow _ _ _ = w3
  have hz3 : w3.heap.size = w2.heap.size := by rw [← hT3]; exact setRow_size _ _ _
  obtain ⟨hx3, f_o3⟩ := fin_x (b0 _) f_o2 hT3
  clear hT3
  have hB3 := bX hB2 hx3 (by omega)
  clear zo_a zo_b
  obtain ⟨zo_a, zo_b, lo3⟩ := rcell f_o3
  have zz := (rcell (ka (f_o3) (.cells #[.int .i64 dt, .int .i64 dv, .int .i64 n0, .int .i64 d0, .int .i64 n1', .int .i64 d1, .int .i64 m] 72))).1
  refine bodyPost_ret (by simp [results, Try.results12, go_sem, zz]; try rfl) rfl ⟨rfl, (bA hB3 (.cells #[.int .i64 dt, .int .i64 dv, .int .i64 n0, .int .i64 d0, .int .i64 n1', .int .i64 d1, .int .i64 m] 72))⟩

theorem dk_ok {l : List Bd} (h : okB l = true) (k : Nat) (hk : 0 < k) (hkl : k ≤ l.length) : DrOk (dk l k) (lastT (l.take k)) := by
  obtain ⟨k0, k1, k2⟩ := okB_spec h
  exact (dk_at l k2 k1 k hkl).2 hk

set_option maxRecDepth 100000 in
set_option maxHeartbeats 1000000 in
theorem swing_Fit_yes (A : Option Addr) (c : Nat) (l : List Bd) (h : okB l = true) (ho : drOpen (dk l l.length) = true) (w : World) (hR : BR w A c l) :
    Calls Try.prog 12 #[.slice A l.length c] w fun e w' => e = .returned (.tuple #[.agg #[.int .i64 (dk l l.length).v, .int .i64 0, .int .i64 (flN (dk l l.length)), .int .i64 (flD (dk l l.length))], .int .i64 0]) ∧ Below w.heap.size w w' := by
  obtain ⟨k0, k1, k2⟩ := okB_spec h
  have c1 := pmc_Check A c l
  rw [chE_yes h] at c1
  have c2 := swing_whole A c l k2 k1 k0
  have c3 := fun g w hg => door_line g (dk l l.length) _ (dk_ok h l.length k0 (Nat.le_refl _)) ho w hg
  rw [ho] at c2
  generalize flN (dk l l.length) = N at *
  generalize flD (dk l l.length) = D at *
  unfold Dr.cs at c2 c3
  generalize dk l l.length = d at *
  obtain ⟨dt, dv, n0, d0, n1', d1, m⟩ := d
  simp only at c2 c3 ⊢
  have HR := hide hR
  clear hR h k0 k1 k2 ho
  go_enter Try.func12, Try.ntmps12
  go_wp2_with fail
  refine (c1 _ (HR.out.below (bA (b0 _) _))).mono ?_
  rintro e w1 ⟨rfl, hb1⟩
  have f_o1 := kp hb1 (na w #[.int .i64 0, .int .i64 0, .int .i64 0, .int .i64 0] 23)
  have hB1 := bB (bA (b0 w) (.cells #[.int .i64 0, .int .i64 0, .int .i64 0, .int .i64 0] 23)) hb1
  obtain ⟨zo_a, zo_b, lo1⟩ := rcell f_o1
  go_wp2_with fail
  refine (c2 _ (HR.out.below hB1)).mono ?_
  rintro e w2 ⟨rfl, hb2⟩
  have f_o2 := kp hb2 (f_o1)
  have hB2 := bB hB1 hb2
  clear zo_a zo_b
  obtain ⟨zo_a, zo_b, lo2⟩ := rcell f_o2
  go_wp2_with fail
  refine (c3 _ _ (na w2 #[.int .i64 dt, .int .i64 dv, .int .i64 n0, .int .i64 d0, .int .i64 n1', .int .i64 d1, .int .i64 m] 72)).mono ?_
  rintro e w3 ⟨rfl, hb3⟩
  have f_o3 := kp hb3 (ka (f_o2) (.cells #[.int .i64 dt, .int .i64 dv, .int .i64 n0, .int .i64 d0, .int .i64 n1', .int .i64 d1, .int .i64 m] 72))
  have f_d3 := kp hb3 (na w2 #[.int .i64 dt, .int .i64 dv, .int .i64 n0, .int .i64 d0, .int .i64 n1', .int .i64 d1, .int .i64 m] 72)
  have hB3 := bB (bA hB2 (.cells #[.int .i64 dt, .int .i64 dv, .int .i64 n0, .int .i64 d0, .int .i64 n1', .int .i64 d1, .int .i64 m] 72)) hb3
  clear zo_a zo_b
  obtain ⟨zo_a, zo_b, lo3⟩ := rcell f_o3
  obtain ⟨zd_a, zd_b, ld3⟩ := rcell f_d3
  go_wp2_with fail
  (rw [row4 (f_o3)]; generalize hT : setRow _ _ _ = wE; obtain ⟨hbE, hgE⟩ := ret_row hB3 (by omega) (f_o3) hT; have zE := (rcell hgE).1; clear hT; refine bodyPost_ret (by simp [results, Try.results12, go_sem, zE]; try rfl) rfl ?_)
  exact ⟨rfl, hbE⟩

/-- a line goes through bands -/
def thrB (A R N D : Int) (t0 : Int) (l : List Bd) : Bool := l.all fun b => winB A R N D (b.t - t0) b.lo b.hi
theorem thrB_take {A R N D t0 : Int} {l : List Bd} {k : Nat} (hk : k < l.length) : thrB A R N D t0 (l.take (k + 1)) = (thrB A R N D t0 (l.take k) && winB A R N D (l[k].t - t0) l[k].lo l[k].hi) := by
  unfold thrB
  rw [take_snoc l k hk, List.all_append]
  simp
theorem thrB_pre {A R N D t0 : Int} {l : List Bd} {k : Nat} (h : thrB A R N D t0 l = true) : thrB A R N D t0 (l.take k) = true := by
  unfold thrB at *
  rw [List.all_eq_true] at *
  exact fun b hb => h b (List.mem_of_mem_take hb)
theorem thrB_no {A R N D t0 : Int} {l : List Bd} {k : Nat} (h : thrB A R N D t0 (l.take k) = false) : thrB A R N D t0 l = false := by
  cases e : thrB A R N D t0 l with
  | false => rfl
  | true => rw [thrB_pre e] at h; cases h
theorem el_bd {l : List Bd} (h : okF (-1) l = true) (k : Nat) (hk : k < l.length) : -1 ≤ lastT (l.take k) ∧ bdB (lastT (l.take k)) l[k] = true := by
  refine ⟨?_, okF_el h k hk⟩
  cases k with
  | zero => exact Int.le_refl (-1)
  | succ k =>
    have := (el_bd h k (by omega))
    rw [take_snoc l k (by omega), lastT_snoc]
    have := (bdB_spec this.2).1
    omega
theorem el_rg {l : List Bd} (h : okF (-1) l = true) (k : Nat) (hk : k < l.length) : 0 ≤ l[k].t ∧ l[k].t ≤ 281474976710656 ∧ l[k].lo ≤ l[k].hi ∧ (-2305844108725321728 ≤ l[k].lo ∧ l[k].lo ≤ 2305844108725321728) ∧ (-2305844108725321728 ≤ l[k].hi ∧ l[k].hi ≤ 2305844108725321728) := by
  obtain ⟨h1, h2⟩ := el_bd h k hk
  obtain ⟨h3, h4, h5, h6, h7⟩ := bdB_spec h2
  exact ⟨by omega, h4, h5, bkB_spec h6, bkB_spec h7⟩
theorem headD_0 {l : List Bd} (h : 0 < l.length) : l.headD ⟨0, 0, 0⟩ = l[0] := by cases l with | nil => simp at h | cons a l => rfl

set_option maxRecDepth 100000 in
theorem swing_Through_no (x y n d : Int) (A : Option Addr) (c : Nat) (l : List Bd) (h : okB l = false) (w : World) (hR : BR w A c l) :
    Calls Try.prog 14 #[.agg #[.int .i64 x, .int .i64 y, .int .i64 n, .int .i64 d], .slice A l.length c] w fun e w' => e = .returned (.bool false) ∧ Below w.heap.size w w' := by
  have c1 := pmc_Check A c l
  rw [chE_no h] at c1
  go_enter Try.func14, Try.ntmps14
  go_wp2_with fail
  refine (c1 _ (hR.below (bA (b0 _) _))).mono ?_
  rintro e w1 ⟨rfl, hb1⟩
  have f_o1 := kp hb1 (na w #[.int .i64 x, .int .i64 y, .int .i64 n, .int .i64 d] 23)
  have hB1 := bB (bA (b0 w) (.cells #[.int .i64 x, .int .i64 y, .int .i64 n, .int .i64 d] 23)) hb1
  obtain ⟨zo_a, zo_b, lo1⟩ := rcell f_o1
  go_wp2
  go_ret
  exact ⟨rfl, hB1⟩

set_option maxRecDepth 100000 in
set_option maxHeartbeats 2000000 in
theorem swing_Through_yes (x y n d : Int) (A : Option Addr) (c : Nat) (l : List Bd) (h : okB l = true) (E : Bool) (hE : Hid (thrB x y n d (l.headD ⟨0, 0, 0⟩).t l = E)) (w : World) (hR : BR w A c l) :
    Calls Try.prog 14 #[.agg #[.int .i64 x, .int .i64 y, .int .i64 n, .int .i64 d], .slice A l.length c] w fun e w' => e = .returned (.bool E) ∧ Below w.heap.size w w' := by
  obtain ⟨k0, k1, k2⟩ := okB_spec h
  have c1 := pmc_Check A c l
  rw [chE_yes h] at c1
  obtain ⟨g, o, cur, rfl, hg, hc⟩ := hR.mem k0
  have he := (hc 0 k0).1
  simp only [Nat.zero_mul, Nat.add_zero] at he
  obtain ⟨t1, t2, -⟩ := el_rg k2 0 k0
  rw [headD_0 k0] at hE
  generalize l[0].t = t0 at *
  have HC := hide hc
  have K2 := hide k2
  have HR := hide hR
  clear hc k2 hR h
  go_enter Try.func14, Try.ntmps14
  obtain ⟨zg_a, zg_b, lg0⟩ := rcell hg
  go_wp2_with fail
  refine (c1 _ (HR.out.below (bA (b0 _) _))).mono ?_
  rintro e w1 ⟨rfl, hb1⟩
  have f_g1 := kp hb1 (ka (hg) (.cells #[.int .i64 x, .int .i64 y, .int .i64 n, .int .i64 d] 23))
  have f_o1 := kp hb1 (na w #[.int .i64 x, .int .i64 y, .int .i64 n, .int .i64 d] 23)
  have hB1 := bB (bA (b0 w) (.cells #[.int .i64 x, .int .i64 y, .int .i64 n, .int .i64 d] 23)) hb1
  clear zg_a zg_b
  obtain ⟨zg_a, zg_b, lg1⟩ := rcell f_g1
  obtain ⟨zo_a, zo_b, lo1⟩ := rcell f_o1
  go_wp2_with fail
  go_loopw [12] (fun vi wr => ∃ k : Nat, vi = .int .i64 k ∧ k ≤ l.length ∧ Hid (thrB x y n d t0 (l.take k) = true) ∧ wr.heap[g]? = some (.cells cur 38 (0, 0)) ∧ wr.heap[w.heap.size]? = some (.cells #[.int .i64 x, .int .i64 y, .int .i64 n, .int .i64 d] 23 (0, 0)) ∧ Below w.heap.size w wr) (fun vi _ => l.length - (intOf vi).toNat)
  case atStart => exact ⟨0, rfl, by omega, hide rfl, (f_g1), (f_o1), hB1⟩
  case round =>
    obtain ⟨k, rfl, hk, hT, j1, j2, hb⟩ := hrel
    by_cases hlt : k < l.length
    · obtain ⟨q1, q2, q3⟩ := HC.out k hlt
      obtain ⟨r1, r2, -, ⟨r3, r4⟩, r5, r6⟩ := el_rg K2.out k hlt
      have HT := hide (thrB_take (A := x) (R := y) (N := n) (D := d) (t0 := t0) hlt)
      generalize l[k] = b at *
      obtain ⟨bt, bl, bh⟩ := b
      simp only at q1 q2 q3 r1 r2 r3 r4 r5 r6
      have cW := line_Within x y n d (bt - t0) bl bh (by omega) (by omega) (by omega) (by omega)
      simp only at HT
      generalize winB x y n d (bt - t0) bl bh = wb at *
      obtain ⟨zg_a, zg_b, lg2⟩ := rcell j1
      obtain ⟨zo_a, zo_b, lo3⟩ := rcell j2
      go_wp2_with fail
      have f_g4 := (ka (j1) (.cells #[.int .i64 bt, .int .i64 bl, .int .i64 bh] 38))
      have f_o4 := (ka (j2) (.cells #[.int .i64 bt, .int .i64 bl, .int .i64 bh] 38))
      have f_b4 := (na wr #[.int .i64 bt, .int .i64 bl, .int .i64 bh] 38)
      have hB4 := (bA hb (.cells #[.int .i64 bt, .int .i64 bl, .int .i64 bh] 38))
      clear zg_a zg_b zo_a zo_b
      have lg4 := (rcell f_g4).2.2
      have lo4 := (rcell f_o4).2.2
      have lb4 := (rcell f_b4).2.2
      refine Abs.wp_region_abs (Abs.cls0 _) [0, 1, 2, 3, 4, 5, 6, 7, 8, 9, 10, 11, 12, 13] (by kernel_rfl) (by kernel_rfl) (Below.refl _ _).drew ?_
      repeat (first | (refine Abs.step_pure rfl rfl (fun K hK => ?_); go_simp; (try go_bits); (first | refine hK _ _ ?_ | (simp only [↓IntWalk.iteOmega]; go_simp; (try go_bits); refine hK _ _ ?_)); clear hK K) | (refine Abs.step_load (v := ?_) rfl rfl (by kernel_rfl) rfl (fun w0 hI => ?_) (fun K hK => ?_); rotate_left; (· have z0 := (rcell (kp hI (f_g4))).1; have z1 := (rcell (kp hI (f_o4))).1; have z2 := (rcell (kp hI (f_b4))).1; go_simp; rfl); (simp only [Act.put, List.setIfInBounds_toArray, List.set_cons_zero, List.set_cons_succ]; refine hK _ _ ?_; clear hK K)) | (refine Abs.step_skip rfl rfl (fun K hK => ?_); (simp only [Act.put, List.setIfInBounds_toArray, List.set_cons_zero, List.set_cons_succ]; refine hK _ _ ?_; clear hK K)))
      (refine Abs.step_call_val (f := ?_) (args := ?_) (v := ?_) rfl rfl rfl rfl (fun w0 => ?_) (fun w0 hI => ?_) (fun K hK => ?_); rotate_left 3; (· go_simp; (constructor <;> rfl)); (· exact cW _); (simp only [Act.put, List.setIfInBounds_toArray, List.set_cons_zero, List.set_cons_succ]; refine hK _ _ ?_; clear hK K))
      repeat (first | (refine Abs.step_pure rfl rfl (fun K hK => ?_); go_simp; (try go_bits); (first | refine hK _ _ ?_ | (simp only [↓IntWalk.iteOmega]; go_simp; (try go_bits); refine hK _ _ ?_)); clear hK K) | (refine Abs.step_load (v := ?_) rfl rfl (by kernel_rfl) rfl (fun w0 hI => ?_) (fun K hK => ?_); rotate_left; (· have z0 := (rcell (kp hI (f_g4))).1; have z1 := (rcell (kp hI (f_o4))).1; have z2 := (rcell (kp hI (f_b4))).1; go_simp; rfl); (simp only [Act.put, List.setIfInBounds_toArray, List.set_cons_zero, List.set_cons_succ]; refine hK _ _ ?_; clear hK K)) | (refine Abs.step_skip rfl rfl (fun K hK => ?_); (simp only [Act.put, List.setIfInBounds_toArray, List.set_cons_zero, List.set_cons_succ]; refine hK _ _ ?_; clear hK K)))
      intro w5 hb5 hx0 hx1 hx2
      clear hx0 hx1 hx2
      simp only [Abs.T_setF, Abs.T_addA, Abs.T_push, Abs.T_start]
      have f_g5 := kp hb5 (f_g4)
      have f_o5 := kp hb5 (f_o4)
      have f_b5 := kp hb5 (f_b4)
      have hB5 := bB hB4 hb5
      obtain ⟨zg_a, zg_b, lg5⟩ := rcell f_g5
      obtain ⟨zo_a, zo_b, lo5⟩ := rcell f_o5
      obtain ⟨zb_a, zb_b, lb5⟩ := rcell f_b5
      cases wb
      · have e : E = false := by rw [← hE.out]; exact thrB_no (k := k + 1) (by rw [HT.out, Bool.and_false])
        subst e
        clear hE HT
        go_wp2
        go_ret
        exact ⟨rfl, hB5⟩
      · have HT2 := hide (HT.out.trans (by rw [hT.out]))
        clear HT
        go_wp2
        go_roundw
        case rel => exact ⟨k + 1, by go_num, by omega, HT2, (f_g5), (f_o5), hB5⟩
        case measure => simp [intOf]; omega
    · obtain rfl : k = l.length := by omega
      rw [List.take_length] at hT
      have e : E = true := by rw [← hE.out]; exact hT.out
      subst e
      clear hE
      go_wp2
      go_ret
      exact ⟨rfl, hb⟩
end Go.Proofs.Ytfdaabdibpcjeaa
