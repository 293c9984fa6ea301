/- swing.whole at this program. swing.first at this program. (door).line; swing.Hinge, Door, Fit, Through at this program. swing.Hinge, Door, Fit at this program. swing.Fit and Through at this program. -/
import Derived.Test.YtpimkigbdjfjoaaDoorP8
import Derived.Scope
import Derived.Test.YtpimkigbdjfjoaaDoorP3
set_option linter.unusedSimpArgs false
set_option linter.unusedVariables false
namespace Go.Proofs.YtpimkigbdjfjoaaDoor
open Go.RowKit
attribute [local go_sem] Oper.semAt_some

def lastD (pre : List (Dr × Bool)) : Dr × Bool := pre.getLast?.getD (dr0, false)
theorem lastD_snoc (pre : List (Dr × Bool)) (x : Dr × Bool) : lastD (pre ++ [x]) = x := by simp [lastD]
theorem lastD_upto (l : List Bd) (k : Nat) : lastD (upto (dl l) (k + 1)) = dl l k := by rw [upto_succ, lastD_snoc]

/-- what whole keeps between two rounds -/
def whI (w : World) (A : Option Addr) (c : Nat) (l : List Bd) (pre : List (Dr × Bool)) (W : World) : Prop :=
  W.heap[w.heap.size + 1 + 1]? = some (.cells (lastD pre).1.cs 120 (0, 0)) ∧ W.heap[w.heap.size + 1 + 1 + 1]? = some (.cells #[.bool (lastD pre).2] 4 (0, 0)) ∧
  W.heap[w.heap.size]? = some (.cells #[.slice A l.length c] 22 (0, 0)) ∧ W.heap[w.heap.size + 1]? = some (.cells dr0.cs 120 (0, 0)) ∧ Below w.heap.size w W

theorem whI.keep {w : World} {A : Option Addr} {c : Nat} {l : List Bd} {pre : List (Dr × Bool)} {B : Nat} {X Y : World} (h : whI w A c l pre X) (hB : w.heap.size + 4 ≤ B) (hb : Below B X Y) : whI w A c l pre Y := by
  obtain ⟨h1, h2, h3, h4, h5⟩ := h
  exact ⟨(hb.block _ (by omega)).trans h1, (hb.block _ (by omega)).trans h2, (hb.block _ (by omega)).trans h3, (hb.block _ (by omega)).trans h4, h5.trans (hb.mono (by omega))⟩

theorem whI.put {w : World} {A : Option Addr} {c : Nat} {l : List Bd} {pre : List (Dr × Bool)} {B : Nat} {W : World} (h : whI w A c l pre W) (hB : w.heap.size + 4 ≤ B) (d : Dr) (is : Bool) :
    Upper B W ((((((((W.setCell ⟨w.heap.size + 1 + 1, 0, none⟩ (.int .i64 d.t)).setCell ⟨w.heap.size + 1 + 1, 1, none⟩ (.int .i64 d.v)).setCell ⟨w.heap.size + 1 + 1, 2, none⟩ (.int .i64 d.n0)).setCell ⟨w.heap.size + 1 + 1, 3, none⟩ (.int .i64 d.d0)).setCell ⟨w.heap.size + 1 + 1, 4, none⟩ (.int .i64 d.n1)).setCell ⟨w.heap.size + 1 + 1, 5, none⟩ (.int .i64 d.d1)).setCell ⟨w.heap.size + 1 + 1, 6, none⟩ (.int .i64 d.many)).setCell ⟨w.heap.size + 1 + 1 + 1, 0, none⟩ (.bool is)) ∧
    whI w A c l (pre ++ [(d, is)]) ((((((((W.setCell ⟨w.heap.size + 1 + 1, 0, none⟩ (.int .i64 d.t)).setCell ⟨w.heap.size + 1 + 1, 1, none⟩ (.int .i64 d.v)).setCell ⟨w.heap.size + 1 + 1, 2, none⟩ (.int .i64 d.n0)).setCell ⟨w.heap.size + 1 + 1, 3, none⟩ (.int .i64 d.d0)).setCell ⟨w.heap.size + 1 + 1, 4, none⟩ (.int .i64 d.n1)).setCell ⟨w.heap.size + 1 + 1, 5, none⟩ (.int .i64 d.d1)).setCell ⟨w.heap.size + 1 + 1, 6, none⟩ (.int .i64 d.many)).setCell ⟨w.heap.size + 1 + 1 + 1, 0, none⟩ (.bool is)) := by
  obtain ⟨i1, i2, i3, i4, i5⟩ := h
  unfold Dr.cs at i1
  rw [r7_7 i1]
  generalize hT1 : setRow W _ _ = W1
  obtain ⟨x1, f1⟩ := fin_x (b0 W) i1 hT1
  have k2 := kx x1 i2 (by omega)
  have k3 := kx x1 i3 (by omega)
  have k4 := kx x1 i4 (by omega)
  rw [row1 k2]
  generalize hT2 : setRow W1 _ _ = W2
  obtain ⟨x2, f2⟩ := fin_x (b0 W1) k2 hT2
  refine ⟨(Upper.exc x1 (by omega)).trans (Upper.exc x2 (by omega)), ?_, ?_, kx x2 k3 (by omega), kx x2 k4 (by omega), bX (bX i5 x1 (by omega)) x2 (by omega)⟩
  · rw [lastD_snoc]; exact kx x2 f1 (by omega)
  · rw [lastD_snoc]; exact f2

end Go.Proofs.YtpimkigbdjfjoaaDoor

namespace Go.Proofs.YtpimkigbdjfjoaaDoor
open Go.RowKit
attribute [local go_sem] Oper.semAt_some

/-- so many bands swing from the first one on -/
structure IsFirst (l : List Bd) (n : Nat) : Prop where
  le : n ≤ l.length
  yes : ∀ k, k < n → drOpen (dk l (k + 1)) = true
  no : n < l.length → drOpen (dk l (n + 1)) = false
theorem IsFirst.uniq {l : List Bd} {n m : Nat} (h : IsFirst l n) (h' : IsFirst l m) : n = m := by
  rcases Nat.lt_trichotomy n m with e | e | e
  · have h1 := h.no (Nat.lt_of_lt_of_le e h'.le)
    rw [h'.yes n e] at h1; cases h1
  · exact e
  · have h1 := h'.no (Nat.lt_of_lt_of_le e h.le)
    rw [h.yes m e] at h1; cases h1
theorem first_pos {l : List Bd} {n : Nat} (h : IsFirst l n) (h0 : 0 < l.length) : 0 < n := by
  rcases Nat.eq_zero_or_pos n with e | e
  · subst e
    have h1 := h.no h0
    rw [dk_succ l 0 h0] at h1
    have e2 : drOpen (drTake (dk l 0) l[0]) = true := by
      have : drTake (dk l 0) l[0] = ⟨l[0].t, hgB l[0], 0, 0, 0, 0, 1⟩ := rfl
      rw [this]; rfl
    rw [e2] at h1; cases h1
  · exact e
theorem lastD_dk (l : List Bd) (k : Nat) : (lastD (upto (dl l) k)).1 = dk l k := by
  cases k with
  | zero => rfl
  | succ k => rw [lastD_upto]; rfl

/-- what first keeps between two rounds -/
def fiI (w : World) (pre : List (Dr × Bool)) (W : World) : Prop :=
  W.heap[w.heap.size + 1]? = some (.cells #[.int .i64 pre.length] 3 (0, 0)) ∧ W.heap[w.heap.size + 1 + 1]? = some (.cells (lastD pre).1.cs 120 (0, 0)) ∧
  W.heap[w.heap.size]? = some (.cells dr0.cs 120 (0, 0)) ∧ Below w.heap.size w W ∧ ∀ x ∈ pre, x.2 = true

theorem fiI.keep {w : World} {pre : List (Dr × Bool)} {B : Nat} {X Y : World} (h : fiI w pre X) (hB : w.heap.size + 3 ≤ B) (hb : Below B X Y) : fiI w pre Y := by
  obtain ⟨h1, h2, h3, h5, h6⟩ := h
  exact ⟨(hb.block _ (by omega)).trans h1, (hb.block _ (by omega)).trans h2, (hb.block _ (by omega)).trans h3, h5.trans (hb.mono (by omega)), h6⟩

theorem fiI.put {w : World} {pre : List (Dr × Bool)} {B : Nat} {W : World} (h : fiI w pre W) (hB : w.heap.size + 3 ≤ B) (d : Dr) (x : Int) (hx : x = ((pre.length + 1 : Nat) : Int)) :
    Upper B W ((((((((W.setCell ⟨w.heap.size + 1, 0, none⟩ (.int .i64 x)).setCell ⟨w.heap.size + 1 + 1, 0, none⟩ (.int .i64 d.t)).setCell ⟨w.heap.size + 1 + 1, 1, none⟩ (.int .i64 d.v)).setCell ⟨w.heap.size + 1 + 1, 2, none⟩ (.int .i64 d.n0)).setCell ⟨w.heap.size + 1 + 1, 3, none⟩ (.int .i64 d.d0)).setCell ⟨w.heap.size + 1 + 1, 4, none⟩ (.int .i64 d.n1)).setCell ⟨w.heap.size + 1 + 1, 5, none⟩ (.int .i64 d.d1)).setCell ⟨w.heap.size + 1 + 1, 6, none⟩ (.int .i64 d.many)).drew ∧
    fiI w (pre ++ [(d, true)]) ((((((((W.setCell ⟨w.heap.size + 1, 0, none⟩ (.int .i64 x)).setCell ⟨w.heap.size + 1 + 1, 0, none⟩ (.int .i64 d.t)).setCell ⟨w.heap.size + 1 + 1, 1, none⟩ (.int .i64 d.v)).setCell ⟨w.heap.size + 1 + 1, 2, none⟩ (.int .i64 d.n0)).setCell ⟨w.heap.size + 1 + 1, 3, none⟩ (.int .i64 d.d0)).setCell ⟨w.heap.size + 1 + 1, 4, none⟩ (.int .i64 d.n1)).setCell ⟨w.heap.size + 1 + 1, 5, none⟩ (.int .i64 d.d1)).setCell ⟨w.heap.size + 1 + 1, 6, none⟩ (.int .i64 d.many)).drew := by
  obtain ⟨i1, i2, i3, i4, i5⟩ := h
  unfold Dr.cs at i2
  rw [row1 i1]
  generalize hT1 : setRow W _ _ = W1
  obtain ⟨x1, f1⟩ := fin_x (b0 W) i1 hT1
  have k2 := kx x1 i2 (by omega)
  have k3 := kx x1 i3 (by omega)
  rw [r7_7 k2]
  generalize hT2 : setRow W1 _ _ = W2
  obtain ⟨x2, f2⟩ := fin_x (b0 W1) k2 hT2
  have u := (Upper.exc (B := B) x1 (by omega)).trans (Upper.exc x2 (by omega))
  have q1 := bX i4 x1 (by omega)
  have q2 := bX q1 x2 (by omega)
  have k4 := kx x2 k3 (by omega)
  have k1 := kx x2 f1 (by omega)
  refine ⟨⟨u.size, u.block⟩, ?_, ?_, k4, q2.drew, ?_⟩
  · rw [List.length_append, ← show x = ((pre.length + [(d, true)].length : Nat) : Int) by rw [hx]; rfl]; exact k1
  · rw [lastD_snoc]; exact f2
  · intro y hy
    rcases List.mem_append.1 hy with h | h
    · exact i5 y h
    · rw [List.mem_singleton.1 h]

set_option maxRecDepth 100000 in
set_option maxHeartbeats 2000000 in
theorem swing_first (A : Option Addr) (c : Nat) (l : List Bd) (hok : okF (-1) l = true) (hl : l.length ≤ 256) (h0 : 0 < l.length) (w : World) (hR : BR w A c l) :
    Calls Tryd.prog 101 #[.slice A l.length c] w fun e w' => ∃ n : Nat, IsFirst l n ∧ e = .returned (.tuple #[.int .i64 n, .agg (dk l n).cs]) ∧ Below w.heap.size w w' := by
  refine calls_of_wp_marks Tryd.func101 rfl ?_
  simp only [Tryd.ntmps101, List.size_toArray, List.length_cons, List.length_nil, Nat.reduceAdd, Nat.reduceSub, Array.replicate_succ, Array.replicate_zero, List.push_toArray, List.append_toArray, List.nil_append, List.cons_append]
  go_wp2_with fail
  refine wp_scope_straight ?_
  go_wp2_with fail
  refine wp_label ?_
  go_wp2_with fail
  refine (swing_doors _ _ _ _).mono ?_
  rintro e w' ⟨rfl, rfl⟩
  go_wp2_with fail
  generalize hW0 : (((w.alloc (.cells #[.int .i64 0, .int .i64 0, .int .i64 0, .int .i64 0, .int .i64 0, .int .i64 0, .int .i64 0] 120)).alloc (.cells #[.int .i64 0] 3)).alloc (.cells #[.int .i64 0, .int .i64 0, .int .i64 0, .int .i64 0, .int .i64 0, .int .i64 0, .int .i64 0] 120)).alloc (.cells #[.slice A l.length c] 22) = W0
  have hs0 : W0.heap.size = w.heap.size + 4 := by rw [← hW0]; simp
  have hI0 : fiI w [] W0 := by
    rw [← hW0]
    exact ⟨ka (ka (na1 w _ _ _) _) _, ka (na2 w _ _ _ _) _, ka (ka (ka (na w _ _) _) _) _, bA (bA (bA (bA (b0 w) _) _) _) _, fun _ h => by cases h⟩
  have hB0 : W0.heap[w.heap.size + 1 + 1 + 1]? = some (.cells #[.slice A l.length c] 22 (0, 0)) := by
    rw [← hW0]; exact na3 w _ _ _ _ _
  clear hW0
  refine wp_rangeFunc_seq rfl (enters_of Tryd.func130 (by kernel_rfl) rfl) (doors_seq _ c A l hok hl W0 hB0 h0) (fun _ => rfl)
    (fiI w) (fun c' pre W => c' = .exit 0 ∧ ∃ ini x, pre = ini ++ [x] ∧ x.2 = false ∧ fiI w ini W) (fun s X Y h hb => h.keep (by omega) hb) (by rintro c' s X Y ⟨h1, ini, x, h2, h3, h4⟩ hb; exact ⟨h1, ini, x, h2, h3, h4.keep (by omega) hb⟩) (fun s X h => hR.below h.2.2.2.1) hI0 ?round ?done ?stop
  case round =>
    rintro l' pre ⟨d, is⟩ W K hl1 hl2 hi hlen hK
    have e1 : encD (d, is) = #[.agg #[.int .i64 d.t, .int .i64 d.v, .int .i64 d.n0, .int .i64 d.d0, .int .i64 d.n1, .int .i64 d.d1, .int .i64 d.many], .bool is] := rfl
    rw [e1]
    gi_wp2
    refine hK _ _ (bA (b0 _) _) ?_
    clear hK
    intro W₂ hT
    have hi2 : fiI w pre W₂ := (hi.keep (B := W.heap.size) (by omega) (bA (b0 W) _)).keep (B := w.heap.size + 3) (Nat.le_refl _) (hT.low (by omega))
    have hbx := kt hT (na W #[.int .i64 d.t, .int .i64 d.v, .int .i64 d.n0, .int .i64 d.d0, .int .i64 d.n1, .int .i64 d.d1, .int .i64 d.many] 120) (by omega)
    obtain ⟨zx1, zx2, zx3⟩ := rcell hbx
    have hi3 := hi2
    obtain ⟨i1, i2, i3, i4, i5⟩ := hi2
    have j1 := i2
    unfold Dr.cs at j1
    obtain ⟨za1, za2, za3⟩ := rcell j1
    obtain ⟨zb1, zb2, zb3⟩ := rcell i1
    clear hi
    have hlen2 : pre.length < 256 := by omega
    cases is
    · have HI := hide hi3
      clear i1 i2 i3 i4 i5 j1 hi3
      gi_wp2
      exact ⟨Upper.refl _ _, rfl, _, _, rfl, rfl, HI.out⟩
    · have HP := hide (fun x hx => hi3.put (B := W0.heap.size) (by omega) d x hx)
      have hw1 : IntKind.i64.wrap ((pre.length : Int) + 1) = ((pre.length + 1 : Nat) : Int) := by rw [IntWalk.i64_in _ (by omega)]; omega
      have HW := hide hw1
      clear i1 i2 i3 i4 i5 j1 hi3 hw1
      gi_wp2
      gi_region
      all_goals exact HP.out _ HW.out
  case done =>
    rintro D xs W hD rfl hi hK
    have hF : IsFirst l l.length := ⟨Nat.le_refl _, fun k hk => by
      have := hi.2.2.2.2 (dl l k) (by unfold upto; exact List.mem_map.2 ⟨k, List.mem_range.2 hk, rfl⟩)
      exact this, fun h => absurd h (Nat.lt_irrefl _)⟩
    obtain ⟨i1, i2, i3, i4, -⟩ := hi
    rw [upto_length] at i1
    rw [lastD_dk] at i2
    generalize hn : l.length = n at hF i1 i2
    have HF := hide hF
    clear hF hn
    generalize hgen : dk l n = d at i2
    have HG := hide hgen
    clear hgen
    simp only [Dr.cs, dr0] at i2 i3
    go_wp2_with fail
    obtain ⟨zo_a, zo_b, lo1⟩ := rcell i3
    obtain ⟨zu_a, zu_b, lu2⟩ := rcell i1
    obtain ⟨zv_a, zv_b, lv3⟩ := rcell i2
    refine Abs.wp_region_abs (Abs.cls _ (fun k => k = w.heap.size)) [0, 1, 2, 3] (by kernel_rfl) (by kernel_rfl) (Below.refl _ _).drew ?_
    repeat (first | (refine Abs.step_pure rfl rfl (fun K hK => ?_); go_simp; (try go_bits); (first | refine hK _ _ ?_ | (simp only [↓IntWalk.iteOmega]; go_simp; (try go_bits); refine hK _ _ ?_)); clear hK K) | (refine Abs.step_late (v := ?_) rfl rfl (fun w0 hI => ?_) (fun K hK => ?_); rotate_left; (· have z0 := (rcell (kj hI i1 (by omega))).1; have z1 := (rcell (kj hI i2 (by omega))).1; go_simp; rfl); (simp only [Act.put, List.setIfInBounds_toArray, List.set_cons_zero, List.set_cons_succ]; refine hK _ _ ?_; clear hK K)) | (refine Abs.step_skip rfl rfl (fun K hK => ?_); (simp only [Act.put, List.setIfInBounds_toArray, List.set_cons_zero, List.set_cons_succ]; refine hK _ _ ?_; clear hK K)))
    (refine Abs.step_store (T := ?_) rfl rfl rfl (fun w0 hI hF hU => ?_) (fun w0 hI hU hJ => ?_) (fun K hK => ?_); rotate_left; (· have hR := kp hI i3; have hg0 := (rcell hR).1; have hg1 := (rcell hR).2.1; simp only [Abs.T_setF, Abs.T_addA, Abs.T_push, Abs.T_start]; go_simp; exact r7_7 hR _ _ _ _ _ _ _); (· first | exact trivial | exact js hJ rfl _ | exact js hJ (Or.inl rfl) _ | exact js hJ (Or.inr rfl) _); (simp only [Act.put, List.setIfInBounds_toArray, List.set_cons_zero, List.set_cons_succ]; refine hK _ _ ?_; clear hK K))
    repeat (first | (refine Abs.step_pure rfl rfl (fun K hK => ?_); go_simp; (try go_bits); (first | refine hK _ _ ?_ | (simp only [↓IntWalk.iteOmega]; go_simp; (try go_bits); refine hK _ _ ?_)); clear hK K) | (refine Abs.step_late (v := ?_) rfl rfl (fun w0 hI => ?_) (fun K hK => ?_); rotate_left; (· have z0 := (rcell (kj hI i1 (by omega))).1; have z1 := (rcell (kj hI i2 (by omega))).1; go_simp; rfl); (simp only [Act.put, List.setIfInBounds_toArray, List.set_cons_zero, List.set_cons_succ]; refine hK _ _ ?_; clear hK K)) | (refine Abs.step_skip rfl rfl (fun K hK => ?_); (simp only [Act.put, List.setIfInBounds_toArray, List.set_cons_zero, List.set_cons_succ]; refine hK _ _ ?_; clear hK K)))
    intro w0 hI hF hx1 hx2
    clear hx1 hx2 hF
    simp only [Abs.T_push]
    generalize hT4 : setRow w0 _ _ = w4
    obtain ⟨hx4, f_o4⟩ := fin_x hI (i3) hT4
    clear hT4 hI w0
    have f_u4 := kx hx4 (i1) (by omega)
    have f_v4 := kx hx4 (i2) (by omega)
    have hB4 := bX i4 hx4 (by omega)
    clear zo_a zo_b zu_a zu_b zv_a zv_b
    obtain ⟨zu_a, zu_b, lu4⟩ := rcell f_u4
    obtain ⟨zv_a, zv_b, lv4⟩ := rcell f_v4
    obtain ⟨zo_a, zo_b, lo4⟩ := rcell f_o4
    have lD := (Array.getElem?_eq_some_iff.1 hK).1
    have hK' := (hx4.other D lD (by omega)).trans hK
    clear hK
    go_wp2_with fail
    have hp := turned_put w4 D (.deferred none)
    obtain ⟨zp, -, -⟩ := rcell (kt hp (f_o4) (by omega))
    refine marks_ret rfl hK' (v := .tuple #[.int .i64 n, .agg #[.int .i64 d.t, .int .i64 d.v, .int .i64 d.n0, .int .i64 d.d0, .int .i64 d.n1, .int .i64 d.d1, .int .i64 d.many]]) (by simp [results, Tryd.results101, go_sem, zp]; try rfl) ⟨n, HF.out, by rw [HG.out]; rfl, ?_⟩
    exact hB4.trans (hp.low (by omega))
  case stop =>
    rintro D c' pre W hD ⟨k, hk, rfl⟩ ⟨rfl, ini, x, hx, hx2, hi⟩ hK
    rw [upto_succ] at hx
    obtain ⟨rfl, hx3⟩ := List.append_inj' hx rfl
    obtain rfl : dl l k = x := by simpa using hx3
    have hF : IsFirst l k := ⟨Nat.le_of_lt hk, fun j hj => by
      have := hi.2.2.2.2 (dl l j) (by unfold upto; exact List.mem_map.2 ⟨j, List.mem_range.2 hj, rfl⟩)
      exact this, fun _ => hx2⟩
    obtain ⟨i1, i2, i3, i4, -⟩ := hi
    rw [upto_length] at i1
    rw [lastD_dk] at i2
    clear hx hx3 hx2
    generalize hn : k = n at hF i1 i2
    have HF := hide hF
    clear hF hn
    generalize hgen : dk l n = d at i2
    have HG := hide hgen
    clear hgen
    simp only [Dr.cs, dr0] at i2 i3
    go_wp2_with fail
    obtain ⟨zo_a, zo_b, lo1⟩ := rcell i3
    obtain ⟨zu_a, zu_b, lu2⟩ := rcell i1
    obtain ⟨zv_a, zv_b, lv3⟩ := rcell i2
    refine Abs.wp_region_abs (Abs.cls _ (fun k => k = w.heap.size)) [0, 1, 2, 3] (by kernel_rfl) (by kernel_rfl) (Below.refl _ _).drew ?_
    repeat (first | (refine Abs.step_pure rfl rfl (fun K hK => ?_); go_simp; (try go_bits); (first | refine hK _ _ ?_ | (simp only [↓IntWalk.iteOmega]; go_simp; (try go_bits); refine hK _ _ ?_)); clear hK K) | (refine Abs.step_late (v := ?_) rfl rfl (fun w0 hI => ?_) (fun K hK => ?_); rotate_left; (· have z0 := (rcell (kj hI i1 (by omega))).1; have z1 := (rcell (kj hI i2 (by omega))).1; go_simp; rfl); (simp only [Act.put, List.setIfInBounds_toArray, List.set_cons_zero, List.set_cons_succ]; refine hK _ _ ?_; clear hK K)) | (refine Abs.step_skip rfl rfl (fun K hK => ?_); (simp only [Act.put, List.setIfInBounds_toArray, List.set_cons_zero, List.set_cons_succ]; refine hK _ _ ?_; clear hK K)))
    (refine Abs.step_store (T := ?_) rfl rfl rfl (fun w0 hI hF hU => ?_) (fun w0 hI hU hJ => ?_) (fun K hK => ?_); rotate_left; (· have hR := kp hI i3; have hg0 := (rcell hR).1; have hg1 := (rcell hR).2.1; simp only [Abs.T_setF, Abs.T_addA, Abs.T_push, Abs.T_start]; go_simp; exact r7_7 hR _ _ _ _ _ _ _); (· first | exact trivial | exact js hJ rfl _ | exact js hJ (Or.inl rfl) _ | exact js hJ (Or.inr rfl) _); (simp only [Act.put, List.setIfInBounds_toArray, List.set_cons_zero, List.set_cons_succ]; refine hK _ _ ?_; clear hK K))
    repeat (first | (refine Abs.step_pure rfl rfl (fun K hK => ?_); go_simp; (try go_bits); (first | refine hK _ _ ?_ | (simp only [↓IntWalk.iteOmega]; go_simp; (try go_bits); refine hK _ _ ?_)); clear hK K) | (refine Abs.step_late (v := ?_) rfl rfl (fun w0 hI => ?_) (fun K hK => ?_); rotate_left; (· have z0 := (rcell (kj hI i1 (by omega))).1; have z1 := (rcell (kj hI i2 (by omega))).1; go_simp; rfl); (simp only [Act.put, List.setIfInBounds_toArray, List.set_cons_zero, List.set_cons_succ]; refine hK _ _ ?_; clear hK K)) | (refine Abs.step_skip rfl rfl (fun K hK => ?_); (simp only [Act.put, List.setIfInBounds_toArray, List.set_cons_zero, List.set_cons_succ]; refine hK _ _ ?_; clear hK K)))
    intro w0 hI hF hx1 hx2
    clear hx1 hx2 hF
    simp only [Abs.T_push]
    generalize hT4 : setRow w0 _ _ = w4
    obtain ⟨hx4, f_o4⟩ := fin_x hI (i3) hT4
    clear hT4 hI w0
    have f_u4 := kx hx4 (i1) (by omega)
    have f_v4 := kx hx4 (i2) (by omega)
    have hB4 := bX i4 hx4 (by omega)
    clear zo_a zo_b zu_a zu_b zv_a zv_b
    obtain ⟨zu_a, zu_b, lu4⟩ := rcell f_u4
    obtain ⟨zv_a, zv_b, lv4⟩ := rcell f_v4
    obtain ⟨zo_a, zo_b, lo4⟩ := rcell f_o4
    have lD := (Array.getElem?_eq_some_iff.1 hK).1
    have hK' := (hx4.other D lD (by omega)).trans hK
    clear hK
    go_wp2_with fail
    have hp := turned_put w4 D (.deferred none)
    obtain ⟨zp, -, -⟩ := rcell (kt hp (f_o4) (by omega))
    refine marks_ret rfl hK' (v := .tuple #[.int .i64 n, .agg #[.int .i64 d.t, .int .i64 d.v, .int .i64 d.n0, .int .i64 d.d0, .int .i64 d.n1, .int .i64 d.d1, .int .i64 d.many]]) (by simp [results, Tryd.results101, go_sem, zp]; try rfl) ⟨n, HF.out, by rw [HG.out]; rfl, ?_⟩
    exact hB4.trans (hp.low (by omega))
end Go.Proofs.YtpimkigbdjfjoaaDoor

namespace Go.Proofs.YtpimkigbdjfjoaaDoor
open Go.RowKit

/-- the slope of a door's line -/
def flN (d : Dr) : Int := if d.many = 1 then 0 else nrN d.n0 d.d0 d.n1 d.d1
def flD (d : Dr) : Int := if d.many = 1 then 1 else nrD d.n0 d.d0 d.n1 d.d1
theorem nr_low {a b c d : Int} (h : Low a b) (h' : Low c d) : Low (nrN a b c d) (nrD a b c d) := by
  unfold nrN nrD
  split
  · rw [h.2.1, h.2.2]; exact h
  · split
    · rw [h'.2.1, h'.2.2]; exact h'
    · exact ⟨rfl, rfl, rfl⟩
theorem fl_low {d : Dr} {last : Int} (hd : DrOk d last) : Low (flN d) (flD d) := by
  unfold flN flD
  split
  · exact ⟨rfl, rfl, rfl⟩
  · next h => exact nr_low (hd.two h).1 (hd.two h).2

end Go.Proofs.YtpimkigbdjfjoaaDoor

namespace Go.Proofs.YtpimkigbdjfjoaaDoor
open Go.RowKit

theorem okB_spec {l : List Bd} (h : okB l = true) : 0 < l.length ∧ l.length ≤ 256 ∧ okF (-1) l = true := by
  unfold okB at h
  simp only [Bool.and_eq_true, decide_eq_true_eq] at h
  exact ⟨h.1.1, h.1.2, h.2⟩
theorem okF_el {l : List Bd} (h : okF (-1) l = true) (k : Nat) (hk : k < l.length) : bdB (lastT (l.take k)) l[k] = true := by
  have ht := okF_take l k hk
  rw [okF_pre (-1) l (k + 1) h] at ht
  cases e : bdB (lastT (l.take k)) l[k]
  · rw [e, Bool.and_false] at ht; cases ht
  · rfl

theorem results_two {fn : Func} {t u : Tmp} (h : fn.results = #[.tmp t, .tmp u]) (tmps : Array Value) (P : Program) (w : World) : (results fn tmps).run P w = .ok (.tuple #[tmps.getD t undef, tmps.getD u undef]) w := by simp [results, h]

theorem hinge_v (x y : Int) (w : World) : (Instr.field 118 (.agg #[.int .i64 x, .int .i64 y]) 1).run Tryd.prog w = .ok (.int .i64 y) w := by
  simp [Instr.field, part, run_underlying Tryd.underlying118, asAgg, go_sem]

end Go.Proofs.YtpimkigbdjfjoaaDoor

namespace Go.Proofs.YtpimkigbdjfjoaaDoor
open Go.RowKit

theorem dk_ok {l : List Bd} (h : okB l = true) (k : Nat) (hk : 0 < k) (hkl : k ≤ l.length) : DrOk (dk l k) (lastT (l.take k)) := by
  obtain ⟨k0, k1, k2⟩ := okB_spec h
  exact (dk_at l k2 k1 k hkl).2 hk

/-- a line goes through bands -/
def thrB (A R N D : Int) (t0 : Int) (l : List Bd) : Bool := l.all fun b => winB A R N D (b.t - t0) b.lo b.hi
theorem thrB_take {A R N D t0 : Int} {l : List Bd} {k : Nat} (hk : k < l.length) : thrB A R N D t0 (l.take (k + 1)) = (thrB A R N D t0 (l.take k) && winB A R N D (l[k].t - t0) l[k].lo l[k].hi) := by
  unfold thrB
  rw [take_snoc l k hk, List.all_append]
  simp
theorem thrB_pre {A R N D t0 : Int} {l : List Bd} {k : Nat} (h : thrB A R N D t0 l = true) : thrB A R N D t0 (l.take k) = true := by
  unfold thrB at *
  rw [List.all_eq_true] at *
  exact fun b hb => h b (List.mem_of_mem_take hb)
theorem thrB_no {A R N D t0 : Int} {l : List Bd} {k : Nat} (h : thrB A R N D t0 (l.take k) = false) : thrB A R N D t0 l = false := by
  cases e : thrB A R N D t0 l with
  | false => rfl
  | true => rw [thrB_pre e] at h; cases h
theorem el_bd {l : List Bd} (h : okF (-1) l = true) (k : Nat) (hk : k < l.length) : -1 ≤ lastT (l.take k) ∧ bdB (lastT (l.take k)) l[k] = true := by
  refine ⟨?_, okF_el h k hk⟩
  cases k with
  | zero => exact Int.le_refl (-1)
  | succ k =>
    have := (el_bd h k (by omega))
    rw [take_snoc l k (by omega), lastT_snoc]
    have := (bdB_spec this.2).1
    omega
theorem el_rg {l : List Bd} (h : okF (-1) l = true) (k : Nat) (hk : k < l.length) : 0 ≤ l[k].t ∧ l[k].t ≤ 281474976710656 ∧ l[k].lo ≤ l[k].hi ∧ (-2305844108725321728 ≤ l[k].lo ∧ l[k].lo ≤ 2305844108725321728) ∧ (-2305844108725321728 ≤ l[k].hi ∧ l[k].hi ≤ 2305844108725321728) := by
  obtain ⟨h1, h2⟩ := el_bd h k hk
  obtain ⟨h3, h4, h5, h6, h7⟩ := bdB_spec h2
  exact ⟨by omega, h4, h5, bkB_spec h6, bkB_spec h7⟩
theorem headD_0 {l : List Bd} (h : 0 < l.length) : l.headD ⟨0, 0, 0⟩ = l[0] := by cases l with | nil => simp at h | cons a l => rfl

end Go.Proofs.YtpimkigbdjfjoaaDoor
