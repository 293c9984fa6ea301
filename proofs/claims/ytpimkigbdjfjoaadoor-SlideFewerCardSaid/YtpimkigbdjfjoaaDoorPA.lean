/- swing.parts[int], Cut at this program. slices.Equal of ints at this program. Bands that come in, and a row of one's own of them; yearbooklaw09.own at this program. Doors, and the lines through them: plain arithmetic. The line that is fitted goes through: plain arithmetic. yearbooklaw09.wakes at this program. -/
import Derived.Test.YtpimkigbdjfjoaaDoorP9
set_option linter.unusedSimpArgs false
set_option linter.unusedVariables false
namespace Go.Proofs.YtpimkigbdjfjoaaDoor
open Go.RowKit

/-- how many bands swing from the first one on -/
def firstN (l : List Bd) : Nat := ((List.range l.length).takeWhile fun k => drOpen (dk l (k + 1))).length
theorem takeWhile_spec (p : Nat → Bool) (n : Nat) : ((List.range n).takeWhile p).length ≤ n ∧ (∀ k, k < ((List.range n).takeWhile p).length → p k = true) ∧ (((List.range n).takeWhile p).length < n → p ((List.range n).takeWhile p).length = false) := by
  induction n with
  | zero => exact ⟨by simp, fun k h => by simp at h, fun h => by simp at h⟩
  | succ n ih =>
    obtain ⟨h1, h2, h3⟩ := ih
    rw [List.range_succ]
    by_cases he : ((List.range n).takeWhile p).length = n
    · have hall : ∀ x ∈ List.range n, p x = true := fun x hx => h2 x (by rw [he]; exact List.mem_range.1 hx)
      rw [List.takeWhile_append_of_pos hall]
      cases hp : p n
      · simp [List.takeWhile, hp]
        intro k hk
        exact h2 k (by omega)
      · simp [List.takeWhile, hp]
        intro k hk
        by_cases e : k = n
        · rw [e]; exact hp
        · exact h2 k (by omega)
    · have hlt : ((List.range n).takeWhile p).length < n := by omega
      have e : ((List.range n) ++ [n]).takeWhile p = (List.range n).takeWhile p := by
        rw [List.takeWhile_append]
        rw [if_neg (by rw [List.length_range]; exact he)]
      rw [e]
      exact ⟨by omega, h2, fun _ => h3 hlt⟩
theorem firstN_is (l : List Bd) : IsFirst l (firstN l) := by
  obtain ⟨h1, h2, h3⟩ := takeWhile_spec (fun k => drOpen (dk l (k + 1))) l.length
  exact ⟨h1, h2, h3⟩
theorem firstN_pos {l : List Bd} (h : 0 < l.length) : 0 < firstN l := first_pos (firstN_is l) h

/-- how many bands are in each part -/
def cuts (l : List Bd) : List Nat := if h : 0 < l.length then firstN l :: cuts (l.drop (firstN l)) else []
termination_by l.length
decreasing_by
  have := firstN_pos h
  rw [List.length_drop]
  omega
theorem cuts_nil {l : List Bd} (h : ¬ 0 < l.length) : cuts l = [] := by rw [cuts, dif_neg h]
theorem cuts_cons {l : List Bd} (h : 0 < l.length) : cuts l = firstN l :: cuts (l.drop (firstN l)) := by rw [cuts, dif_pos h]
theorem okF_mono : ∀ (l : List Bd) (a b : Int), b ≤ a → okF a l = true → okF b l = true
  | [], _, _, _, _ => rfl
  | x :: l, a, b, h, hx => by
    rw [okF, Bool.and_eq_true] at hx ⊢
    refine ⟨?_, hx.2⟩
    have := bdB_spec hx.1
    unfold bdB
    simp only [Bool.and_eq_true, decide_eq_true_eq]
    exact ⟨⟨⟨⟨by omega, this.2.1⟩, this.2.2.1⟩, this.2.2.2.1⟩, this.2.2.2.2⟩
theorem okF_drop : ∀ (l : List Bd) (a : Int), -1 ≤ a → okF a l = true → ∀ k, okF (-1) (l.drop k) = true
  | [], _, _, _, k => by simp [okF]
  | x :: l, a, ha, hx, 0 => okF_mono _ a (-1) ha hx
  | x :: l, a, ha, hx, k + 1 => by
    rw [okF, Bool.and_eq_true] at hx
    have := (bdB_spec hx.1).1
    exact okF_drop l x.t (by omega) hx.2 k

theorem unhide {p : Prop} (h : Hid p) : p := h
def lenS : Value → Nat
  | .slice _ n _ => n
  | _ => 0

set_option maxRecDepth 100000 in
theorem swing_Cut1 (n t v n0 d0 n1 d1 m : Int) (w : World) : Calls Tryd.prog 73 #[.int .i64 n, .agg #[.int .i64 t, .int .i64 v, .int .i64 n0, .int .i64 d0, .int .i64 n1, .int .i64 d1, .int .i64 m]] w fun e w' => e = .returned (.int .i64 n) ∧ Below w.heap.size w w' := by
  go_enter Tryd.func73, Tryd.ntmps73
  go_wp2
  go_ret
  exact ⟨rfl, bA (b0 w) _⟩

set_option maxRecDepth 100000 in
set_option maxHeartbeats 1000000 in
theorem parts_int_no (A : Option Addr) (c : Nat) (l : List Bd) (h : okB l = false) (fv : Value) (w : World) (hR : BR w A c l) :
    Calls Tryd.prog 72 #[.slice A l.length c, fv] w fun e w' => e = .returned (.tuple #[.slice none 0 0, .int .i64 180]) ∧ Below w.heap.size w w' := by
  have c1 := pmc_Check A c l
  rw [chE_no h] at c1
  go_enter Tryd.func72, Tryd.ntmps72
  go_wp2_with fail
  refine (c1 _ hR).mono ?_
  rintro e w1 ⟨rfl, hb1⟩
  have hB1 := bB (b0 w) hb1
  go_wp2
  go_ret2
  exact ⟨rfl, hB1⟩

set_option maxRecDepth 100000 in
set_option maxHeartbeats 2000000 in
theorem parts_int_yes (A : Option Addr) (c : Nat) (l : List Bd) (h : okB l = true) (w : World) (hR : BR w A c l) :
    Calls Tryd.prog 72 #[.slice A l.length c, .func (Fn.func 73) #[] #[]] w fun e w' => ∃ v, e = .returned (.tuple #[v, .int .i64 0]) ∧ Own w.heap.size w' v (cuts l) ∧ Below w.heap.size w w' := by
  obtain ⟨k0, k1, k2⟩ := okB_spec h
  have c1 := pmc_Check A c l
  rw [chE_yes h] at c1
  go_enter Tryd.func72, Tryd.ntmps72
  go_wp2_with fail
  refine (c1 _ hR).mono ?_
  rintro e w1 ⟨rfl, hb1⟩
  have hB1 := bB (b0 w) hb1
  clear c1
  go_wp2_with fail
  go_loopw [0, 7] (fun v0 v7 wr => ∃ (m : Nat) (A' : Option Addr) (c' : Nat) (ns : List Nat), v0 = .slice A' (l.drop m).length c' ∧ BR w A' c' (l.drop m) ∧ Own w.heap.size wr v7 ns ∧ Hid (cuts l = ns ++ cuts (l.drop m)) ∧ Hid (ns.length ≤ m ∧ m ≤ l.length) ∧ Below w.heap.size w wr) (fun v0 _ _ => lenS v0)
  case atStart => exact ⟨0, A, c, [], rfl, hR, Own.nil _ _, hide rfl, hide ⟨Nat.le_refl _, Nat.zero_le _⟩, hB1⟩
  case round =>
    obtain ⟨m, A', c', ns, rfl, hR', ho, hc, hm, hb⟩ := hrel
    have hl2 : (l.drop m).length ≤ 256 := by rw [List.length_drop]; omega
    have hok2 := okF_drop l (-1) (Int.le_refl _) k2 m
    have hdd := fun k => List.drop_drop (l := l) (i := k) (j := m)
    have hml : (l.drop m).length = l.length - m := List.length_drop
    generalize l.drop m = r at *
    have HDD := hide hdd
    have HML := hide hml
    have HOK := hide hok2
    clear hdd hml hok2
    by_cases hd : 0 < r.length
    · have hn := firstN_is r
      have c2 := swing_first A' c' r HOK.out hl2 hd
      have hcc := cuts_cons hd
      have hn0 := firstN_pos hd
      have hu := fun n (h : IsFirst r n) => h.uniq hn
      have hnl := hn.le
      generalize firstN r = n at *
      have HU := hide hu
      have HCC := hide hcc
      have C2 := hide (c2 _ (hR'.below hb))
      clear hu hcc hn c2
      go_wp2_with fail
      refine (unhide C2).mono ?_
      rintro e w2 ⟨n', hn', rfl, hb2⟩
      obtain rfl := HU.out n' hn'
      unfold Dr.cs
      generalize dk r n' = d
      obtain ⟨dt, dv, n0, d0, n1', d1, dm⟩ := d
      clear C2 HU hn'
      have HB2 := bB hb hb2
      have ho2 := ho.lift hb2
      clear hb2 ho hR
      go_wp2_with fail
      refine (swing_Cut1 _ _ _ _ _ _ _ _ _).mono ?_
      rintro e w3 ⟨rfl, hb3⟩
      have HB3 := bB (bA HB2 _) hb3
      have ho3 := ho2.lift (bB (bA (b0 w2) _) hb3)
      clear hb3 ho2 HB2
      have k1 : ns.length + [n'].length ≤ 4096 := by have := hm.out; simp; omega
      have hcap := hR'.cap
      go_wp2_with (at_builtin; refine wpList_push rfl _ _ rfl w.heap.size _ ns [n'] _ _ rfl rfl (ho3.lift (bA (b0 _) _)) (Rd.oneI _ _ _ rfl) k1 (bA HB3 _).size ?_; intro v1 w5 ho5 hb5 hs5)
      have hdr := HDD.out n'
      refine ⟨⟨m + n', (if r.length = n' then A' else A'.map (fun x => x.add (n' * 3))), r.length - n', ns ++ [n'], ?_, ?_, ho5, hide ?_, hide ?_, hb5 _ (bA HB3 _)⟩, ?_⟩
      · rw [← hdr, List.length_drop]
      · rw [← hdr]
        exact hR'.drop n' hnl (Nat.le_refl _) hcap
      · rw [hc.out, HCC.out, ← hdr, List.append_assoc]; rfl
      · have h1 := hm.out
        have h2 := HML.out
        rw [List.length_append]
        simp
        omega
      · show r.length - n' < r.length
        omega
    · obtain rfl : r = [] := List.eq_nil_of_length_eq_zero (by omega)
      have hcf := hc.out
      rw [cuts_nil (l := []) (by simp), List.append_nil] at hcf
      have HC := hide hcf
      clear hcf hc hd
      go_wp2
      go_ret2
      exact ⟨_, rfl, by rw [HC.out]; exact ho, hb⟩

theorem swing_Cut_no (A : Option Addr) (c : Nat) (l : List Bd) (h : okB l = false) (w : World) (hR : BR w A c l) :
    Calls Tryd.prog 36 #[.slice A l.length c] w fun e w' => e = .returned (.tuple #[.slice none 0 0, .int .i64 180]) ∧ Below w.heap.size w w' := by
  have c1 := parts_int_no A c l h (.func (Fn.func 73) #[] #[])
  go_enter Tryd.func36, Tryd.ntmps36
  go_wp2_with fail
  refine (c1 _ hR).mono ?_
  rintro e w1 ⟨rfl, hb1⟩
  have hB1 := bB (b0 w) hb1
  go_wp2
  go_ret2
  exact ⟨rfl, hB1⟩

theorem swing_Cut_yes (A : Option Addr) (c : Nat) (l : List Bd) (h : okB l = true) (w : World) (hR : BR w A c l) :
    Calls Tryd.prog 36 #[.slice A l.length c] w fun e w' => ∃ A' c', e = .returned (.tuple #[.slice A' (cuts l).length c', .int .i64 0]) ∧ Rd w' A' c' (cuts l) ∧ Below w.heap.size w w' := by
  have c1 := parts_int_yes A c l h
  go_enter Tryd.func36, Tryd.ntmps36
  go_wp2_with fail
  refine (c1 _ hR).mono ?_
  rintro e w1 ⟨v, rfl, ho, hb1⟩
  go_wp2
  go_ret2
  obtain ⟨A', c', rfl, hr⟩ := ho.rd
  exact ⟨A', c', rfl, hr, hb1⟩
end Go.Proofs.YtpimkigbdjfjoaaDoor

namespace Go.Proofs.YtpimkigbdjfjoaaDoor
open Go.RowKit

theorem results_tmp1' {fn : Func} {t : Tmp} (h : fn.results = #[.tmp t]) (tmps : Array Value) (P : Program) (w : World) : (results fn tmps).run P w = .ok (tmps.getD t undef) w := by simp [results, h]

set_option maxRecDepth 100000 in
theorem equal_int_len (A B : Option Addr) (c d n m : Nat) (hne : n ≠ m) (w : World) :
    Calls Tryd.prog 25 #[.slice A n c, .slice B m d] w fun e w' => e = .returned (.bool false) ∧ Below w.heap.size w w' := by
  have n1 : ((n : Int) != (m : Int)) = true := by simp; omega
  go_enter Tryd.func25, Tryd.ntmps25
  go_wp2
  go_ret
  exact ⟨rfl, b0 w⟩

set_option maxRecDepth 100000 in
set_option maxHeartbeats 1000000 in
theorem equal_int_in (A B : Option Addr) (c d : Nat) (xs ys : List Nat) (hlen : xs.length = ys.length) (h0 : 0 < xs.length) (hm : xs.length ≤ 100000) (E : Bool) (hE : Hid (decide (xs = ys) = E)) (w : World) (hR : Rd w A c xs) (hS : Rd w B d ys) :
    Calls Tryd.prog 25 #[.slice A xs.length c, .slice B ys.length d] w fun e w' => e = .returned (.bool E) ∧ Below w.heap.size w w' := by
  obtain ⟨g, cur, rfl, hg, hc⟩ := hR.mem h0
  obtain ⟨g', cur', rfl, hg', hc'⟩ := hS.mem (by omega)
  rw [← hlen]
  have HC := hide hc
  have HC' := hide hc'
  have HL := hide hlen
  clear hc hc' hR hS hlen
  go_enter Tryd.func25, Tryd.ntmps25
  obtain ⟨zg_a, zg_b, lg0⟩ := rcell hg
  obtain ⟨zh_a, zh_b, lh0⟩ := rcell hg'
  go_wp2_with fail
  go_loopw [13] (fun vi wr => ∃ k : Nat, vi = .int .i64 k ∧ k ≤ xs.length ∧ Hid (xs.take k = ys.take k) ∧ wr.heap[g]? = some (.cells cur 3 (0, 0)) ∧ wr.heap[g']? = some (.cells cur' 3 (0, 0)) ∧ Below w.heap.size w wr) (fun vi _ => xs.length - (intOf vi).toNat)
  case atStart => exact ⟨0, rfl, by omega, hide rfl, (hg), (hg'), (b0 w)⟩
  case round =>
    obtain ⟨k, rfl, hk, hT, j1, j2, hb⟩ := hrel
    by_cases hlt : k < xs.length
    · have hlt' : k < ys.length := by rw [← HL.out]; exact hlt
      have q1 := HC.out k hlt
      have q2 := HC'.out k hlt'
      have T1 := hide (take_snoc xs k hlt)
      have T2 := hide (take_snoc ys k hlt')
      have HX := hide (show xs[k]? = some xs[k] by simp)
      have HY := hide (show ys[k]? = some ys[k] by simp)
      generalize xs[k] = x at *
      generalize ys[k] = y at *
      clear hlt'
      obtain ⟨zg_a, zg_b, lg1⟩ := rcell j1
      obtain ⟨zh_a, zh_b, lh2⟩ := rcell j2
      go_wp2_with fail
      refine Abs.wp_region_abs (Abs.cls0 _) [0, 1, 2, 3, 4, 5, 6, 7, 8] (by kernel_rfl) (by kernel_rfl) (Below.refl _ _).drew ?_
      repeat (first | (refine Abs.step_pure rfl rfl (fun K hK => ?_); go_simp; (try go_bits); (first | refine hK _ _ ?_ | (simp only [↓IntWalk.iteOmega]; go_simp; (try go_bits); refine hK _ _ ?_)); clear hK K) | (refine Abs.step_load (v := ?_) rfl rfl (by kernel_rfl) rfl (fun w0 hI => ?_) (fun K hK => ?_); rotate_left; (· have z0 := (rcell (kp hI (j1))).1; have z1 := (rcell (kp hI (j2))).1; go_simp; rfl); (simp only [Act.put, List.setIfInBounds_toArray, List.set_cons_zero, List.set_cons_succ]; refine hK _ _ ?_; clear hK K)) | (refine Abs.step_skip rfl rfl (fun K hK => ?_); (simp only [Act.put, List.setIfInBounds_toArray, List.set_cons_zero, List.set_cons_succ]; refine hK _ _ ?_; clear hK K)))
      intro w4 hb4 hx0 hx1 hx2
      clear hx0 hx1 hx2
      simp only [Abs.T_setF, Abs.T_addA, Abs.T_push, Abs.T_start]
      have f_g4 := kp hb4 (j1)
      have f_h4 := kp hb4 (j2)
      have hB4 := bB hb hb4
      clear zg_a zg_b zh_a zh_b
      obtain ⟨zg_a, zg_b, lg4⟩ := rcell f_g4
      obtain ⟨zh_a, zh_b, lh4⟩ := rcell f_h4
      cases q : ((x : Int) != (y : Int))
      · have hxy : x = y := by simp at q; omega
        have HT2 : Hid (xs.take (k + 1) = ys.take (k + 1)) := hide (by rw [T1.out, T2.out, hT.out, hxy])
        clear hxy
        go_wp2
        go_roundw
        case rel => exact ⟨k + 1, by go_num, by omega, HT2, (f_g4), (f_h4), hB4⟩
        case measure => simp [intOf]; omega
      · have hxy : ¬ x = y := by simp at q; omega
        have e : E = false := by
          rw [← hE.out, decide_eq_false_iff_not]
          intro e
          have h1 := HX.out
          have h2 := HY.out
          rw [e, h2] at h1
          exact hxy (Option.some.inj h1).symm
        subst e
        clear hE hxy
        go_wp2
        go_ret
        exact ⟨rfl, hB4⟩
    · obtain rfl : k = xs.length := by omega
      have hT2 := hT.out
      rw [HL.out, List.take_length, ← HL.out, List.take_length] at hT2
      have e : E = true := by rw [← hE.out, decide_eq_true_iff]; exact hT2
      subst e
      clear hE hT2
      go_wp2
      go_ret
      exact ⟨rfl, hb⟩

theorem equal_int_nil (A B : Option Addr) (c d : Nat) (w : World) :
    Calls Tryd.prog 25 #[.slice A 0 c, .slice B 0 d] w fun e w' => e = .returned (.bool true) ∧ Below w.heap.size w w' := by
  go_enter Tryd.func25, Tryd.ntmps25
  go_wp2
  go_loopw [13] (fun vi wr => vi = .int .i64 0 ∧ Below w.heap.size w wr) (fun _ _ => 0)
  case atStart => exact ⟨rfl, b0 w⟩
  case round =>
    obtain ⟨rfl, hb⟩ := hrel
    go_wp2
    go_ret
    exact ⟨rfl, hb⟩

theorem equal_int (A B : Option Addr) (c d : Nat) (xs ys : List Nat) (hm : xs.length ≤ 100000) (w : World) (hR : Rd w A c xs) (hS : Rd w B d ys) :
    Calls Tryd.prog 25 #[.slice A xs.length c, .slice B ys.length d] w fun e w' => e = .returned (.bool (decide (xs = ys))) ∧ Below w.heap.size w w' := by
  by_cases hl : xs.length = ys.length
  · by_cases h0 : 0 < xs.length
    · exact equal_int_in A B c d xs ys hl h0 hm _ (hide rfl) w hR hS
    · obtain rfl : xs = [] := List.eq_nil_of_length_eq_zero (by omega)
      obtain rfl : ys = [] := List.eq_nil_of_length_eq_zero (by rw [← hl]; rfl)
      exact equal_int_nil A B c d w
  · rw [show decide (xs = ys) = false by rw [decide_eq_false_iff_not]; intro e; exact hl (by rw [e])]
    exact equal_int_len A B c d _ _ hl w
end Go.Proofs.YtpimkigbdjfjoaaDoor

namespace Go.Proofs.YtpimkigbdjfjoaaDoor
open Go.RowKit

def bvals : List Bd → List Value
  | [] => []
  | b :: l => .int .i64 b.t :: .int .i64 b.lo :: .int .i64 b.hi :: bvals l
theorem bvals_len (l : List Bd) : (bvals l).length = l.length * 3 := by
  induction l with
  | nil => rfl
  | cons b l ih => simp [bvals, ih]; omega
theorem bvals_append (l m : List Bd) : bvals (l ++ m) = bvals l ++ bvals m := by
  induction l with
  | nil => rfl
  | cons b l ih => simp [bvals, ih]
theorem bvals_get : ∀ (l : List Bd) (i : Nat) (hi : i < l.length), (bvals l)[i * 3]? = some (.int .i64 l[i].t) ∧ (bvals l)[i * 3 + 1]? = some (.int .i64 l[i].lo) ∧ (bvals l)[i * 3 + 2]? = some (.int .i64 l[i].hi)
  | b :: l, 0, _ => ⟨rfl, rfl, rfl⟩
  | b :: l, i + 1, hi => by
    have := bvals_get l i (by simpa using hi)
    rw [show (i + 1) * 3 = i * 3 + 3 by omega]
    exact this
theorem bvals_one (l : List Bd) : ∀ u ∈ bvals l, u.oneCell' = true := by
  induction l with
  | nil => intro u h; cases h
  | cons b l ih =>
    intro u h
    simp only [bvals, List.mem_cons] at h
    rcases h with rfl | rfl | rfl | h
    · rfl
    · rfl
    · rfl
    · exact ih u h

/-- a slice of bands that came in, or lies somewhere -/
def InB (w : World) (X : Option Addr) (xs : List Bd) : Prop :=
  0 < xs.length → ∃ ad, X = some ad ∧ ad.block < w.heap.size ∧ ∀ i (hi : i < xs.length), w.cell? (ad.add (i * 3)) = some (.int .i64 xs[i].t) ∧ w.cell? (ad.add (i * 3 + 1)) = some (.int .i64 xs[i].lo) ∧ w.cell? (ad.add (i * 3 + 2)) = some (.int .i64 xs[i].hi)
theorem InB.below {w w' : World} {X : Option Addr} {xs : List Bd} (h : InB w X xs) (hb : Below w.heap.size w w') : InB w' X xs := fun h0 => by
  obtain ⟨ad, e, h1, h2⟩ := h h0
  have hc : ∀ j, w'.cell? (ad.add j) = w.cell? (ad.add j) := fun j => hb.cell (p := ad.add j) (by rw [show (ad.add j).block = ad.block by unfold Addr.add; split <;> rfl]; exact h1)
  exact ⟨ad, e, Nat.lt_of_lt_of_le h1 hb.size, fun i hi => by rw [hc, hc, hc]; exact h2 i hi⟩
theorem InB.take {w : World} {X : Option Addr} {xs : List Bd} (h : InB w X xs) (k : Nat) : InB w X (xs.take k) := fun h0 => by
  rw [List.length_take] at h0
  obtain ⟨ad, e, h1, h2⟩ := h (by omega)
  refine ⟨ad, e, h1, fun i hi => ?_⟩
  rw [List.length_take] at hi
  have := h2 i (by omega)
  simpa using this
theorem InB.flat {w : World} {ad : Addr} {xs : List Bd} (h : InB w (some ad) xs) : ∀ j u, (bvals xs)[j]? = some u → w.cell? (ad.add j) = some u := by
  intro j u hu
  have hj : j < xs.length * 3 := by rw [← bvals_len]; exact (List.getElem?_eq_some_iff.1 hu).1
  obtain ⟨ad', e, -, h2⟩ := h (by omega)
  obtain rfl : ad = ad' := Option.some.inj e
  obtain ⟨q1, q2, q3⟩ := h2 (j / 3) (by omega)
  obtain ⟨p1, p2, p3⟩ := bvals_get xs (j / 3) (by omega)
  have hm : j % 3 = 0 ∨ j % 3 = 1 ∨ j % 3 = 2 := by omega
  rcases hm with hm | hm | hm
  · have e : j / 3 * 3 = j := by omega
    rw [e] at p1 q1
    rw [q1, ← p1, hu]
  · have e : j / 3 * 3 + 1 = j := by omega
    rw [e] at p2 q2
    rw [q2, ← p2, hu]
  · have e : j / 3 * 3 + 2 = j := by omega
    rw [e] at p3 q3
    rw [q3, ← p3, hu]

/-- a row of bands of the call's own -/
def OwnB (B : Nat) (w : World) (v : Value) (l : List Bd) : Prop := w.ownsRow B 37 3 v l.length (bvals l)
theorem OwnB.br {B : Nat} {w : World} {v : Value} {l : List Bd} (h : OwnB B w v l) : ∃ A c, v = .slice A l.length c ∧ BR w A c l := by
  obtain ⟨h1, ⟨rfl, h2⟩ | ⟨g, cap, cur, rfl, hb, hg, hn, hm, hs, ht⟩⟩ := h
  · exact ⟨none, 0, by rw [h2], by omega, by omega, fun hl => by omega⟩
  · refine ⟨some ⟨g, 0, none⟩, cap, rfl, hn, by unfold maxLen at hm; omega, fun hl => ⟨g, 0, cur, rfl, hg, fun i hi => ?_⟩⟩
    have hk : ∀ j, j < l.length * 3 → cur[j]? = (bvals l)[j]? := fun j hj => by
      rw [← ht, List.getElem?_take, if_pos hj]
      simp
    have := bvals_get l i hi
    rw [Nat.zero_add, hk _ (by omega), hk _ (by omega), hk _ (by omega)]
    exact this
theorem OwnB.lift {B : Nat} {w w' : World} {v : Value} {l : List Bd} (h : OwnB B w v l) (hb : Below w.heap.size w w') : OwnB B w' v l := by
  obtain ⟨h1, h2⟩ := h
  refine ⟨h1, ?_⟩
  rcases h2 with h2 | ⟨g, cap, cur, h3, h4, h5, h6⟩
  · exact .inl h2
  · exact .inr ⟨g, cap, cur, h3, h4, (hb.block g (Array.getElem?_eq_some_iff.1 h5).1).trans h5, h6⟩
theorem OwnB.lt {B : Nat} {w : World} {v : Value} {l : List Bd} (h : OwnB B w v l) : ∀ k, v.ownBlock = some k → B ≤ k := fun k hk => (World.ownsRow.lt h k hk).1
theorem OwnB.fresh (w : World) : OwnB w.heap.size (w.alloc (.cells #[] 37)) (.slice (some ⟨w.heap.size, 0, none⟩) 0 0) [] :=
  ⟨rfl, .inr ⟨w.heap.size, 0, _, rfl, Nat.le_refl _, na w _ _, Nat.le_refl _, by decide, rfl, rfl⟩⟩
theorem OwnB.nil (B : Nat) (w : World) : OwnB B w (.slice none 0 0) [] := World.ownsRow_nil w B _ 3

theorem band_info : (Tryd.prog.info? 37).map (fun i => (i.zero, i.size, i.bytes)) = some (some (.agg #[.int .i64 0, .int .i64 0, .int .i64 0]), 3, 24) := by kernel_rfl

set_option maxRecDepth 100000 in
theorem pushB_run (w : World) (ty : TypeId) {B : Nat} {v : Value} {l m : List Bd} {A : Option Addr} {c : Nat} (hown : OwnB B w v l) (hr : InB w A m) (hlen : l.length + m.length ≤ 4096) (hB : B ≤ w.heap.size) :
    ∃ v' w', (Builtin.append_ #[22, 22] ty #[v, .slice A m.length c]).run Tryd.prog w = .ok v' w' ∧ OwnB B w' v' (l ++ m) ∧ w.grownBy w' v.ownBlock := by
  obtain ⟨i0, hi0, hz0, hz1, hz2⟩ := info_parts band_info
  rcases A with _ | ad
  · have hm : m = [] := by
      by_cases h0 : 0 < m.length
      · obtain ⟨ad, e, _⟩ := hr h0
        cases e
      · exact List.eq_nil_of_length_eq_zero (by omega)
    subst hm
    refine ⟨v, w, ?_, by simpa using hown, World.grownBy.refl w _⟩
    rcases hown.2 with ⟨rfl, _⟩ | ⟨g, cap, cur, rfl, _, _, hn, _⟩
    · simp [Builtin.append_, run_underlying Tryd.underlying22, sizeOf, typeInfo, hi0, Builtin.lenOf, Builtin.firstCells]
    · simp [Builtin.append_, run_underlying Tryd.underlying22, sizeOf, typeInfo, hi0, Builtin.lenOf, Builtin.firstCells, hn, storeCells]
  · obtain ⟨v', w', hrun, h2, h3, _, _⟩ := run_append_own_at (P := Tryd.prog) w B 22 ty 37 i0 (.agg #[.int .i64 0, .int .i64 0, .int .i64 0]) 3 24 Tryd.underlying22 hi0 hz0 hz1 hz2 rfl (by decide) v l.length (bvals l) hown ad m.length c (bvals m) (bvals_len m) hr.flat
      (bvals_one m) (by simp only [maxLen]; omega) (by omega) hB
    refine ⟨v', w', hrun, ?_, h3⟩
    unfold OwnB
    rw [List.length_append, bvals_append]
    exact h2

set_option maxRecDepth 100000 in
theorem wpList_pushB {ops : Array Oper} {rest : List Oper} {o : Oper} {a : Act} {w : World} {Q : Exit → Act → World → Prop} (hgd : o.guard = none) (s x : Operand)
    (ho : o.op = .call { callee := .builtin .append, args := #[s, x], argTypes := #[22, 22] }) (B : Nat) (v : Value) (l m : List Bd) (A : Option Addr) (c : Nat)
    (hs : a.eval s = v) (hx : a.eval x = .slice A m.length c) (hown : OwnB B w v l) (hr : InB w A m) (hlen : l.length + m.length ≤ 4096) (hB : B ≤ w.heap.size)
    (h : ∀ v' w', OwnB B w' v' (l ++ m) → (∀ w0 : World, Below B w0 w → Below B w0 w') → w.heap.size ≤ w'.heap.size → wpList Tryd.prog ops Q rest (a.put o.dst v') w') : wpList Tryd.prog ops Q (o :: rest) a w := by
  obtain ⟨v', w', hrun, h2, h3⟩ := pushB_run w o.type hown hr hlen hB
  refine wpList_plain hgd fun _ hK => ?_
  unfold Oper.wp execOp
  simp only [ho, resolve, invoke, builtin, Sem.run_bind, Sem.run_pure, Result.andThen_ok, List.map_toArray, List.map_cons, List.map_nil, hs, hx]
  rw [hrun]
  exact hK _ _ (h v' w' h2 (fun w0 hb => hb.grown h3 hB hown.lt) h3.size)

end Go.Proofs.YtpimkigbdjfjoaaDoor

namespace Go.Proofs.YtpimkigbdjfjoaaDoor
open Go.RowKit

def bd (l : List Bd) (i : Nat) : Bd := l.getD i ⟨0, 0, 0⟩
theorem bd_eq {l : List Bd} {i : Nat} (h : i < l.length) : l[i] = bd l i := by unfold bd; simp [h]
theorem bd_take {l : List Bd} {i k : Nat} (h : i < k) : bd (l.take k) i = bd l i := by
  unfold bd
  simp [List.getD, List.getElem?_take, h]
theorem bd_head {l : List Bd} (h : 0 < l.length) : l.headD ⟨0, 0, 0⟩ = bd l 0 := by rw [headD_0 h, bd_eq h]

theorem t_step {l : List Bd} (h : okF (-1) l = true) (k : Nat) (hk : k + 1 < l.length) : (bd l k).t < (bd l (k + 1)).t := by
  obtain ⟨h1, h2⟩ := el_bd h (k + 1) hk
  have h3 := (bdB_spec h2).1
  rw [take_snoc l k (by omega), lastT_snoc] at h3
  rw [← bd_eq hk, ← bd_eq (show k < l.length by omega)]
  exact h3
theorem t_lt {l : List Bd} (h : okF (-1) l = true) (i : Nat) : ∀ j, i < j → j < l.length → (bd l i).t < (bd l j).t
  | 0, h1, _ => absurd h1 (by omega)
  | j + 1, h1, h2 => by
    have h3 := t_step h j h2
    by_cases e : i = j
    · subst e; exact h3
    · have := t_lt h i j (by omega) (by omega)
      omega
theorem bd_rg {l : List Bd} (h : okF (-1) l = true) (k : Nat) (hk : k < l.length) : 0 ≤ (bd l k).t ∧ (bd l k).t ≤ 281474976710656 ∧ (bd l k).lo ≤ (bd l k).hi ∧ (-2305844108725321728 ≤ (bd l k).lo ∧ (bd l k).lo ≤ 2305844108725321728) ∧ (-2305844108725321728 ≤ (bd l k).hi ∧ (bd l k).hi ≤ 2305844108725321728) := by
  have := el_rg h k hk
  rw [bd_eq hk] at this
  exact this

theorem frac_trans {a b c d e f : Int} (hb : 0 < b) (hd : 0 < d) (hf : 0 < f) (h1 : a * d ≤ c * b) (h2 : c * f ≤ e * d) : a * f ≤ e * b := by
  have k1 := Int.mul_le_mul_of_nonneg_right h1 (Int.le_of_lt hf)
  have k2 := Int.mul_le_mul_of_nonneg_right h2 (Int.le_of_lt hb)
  have e1 : a * d * f = (a * f) * d := by rw [Int.mul_assoc, Int.mul_comm d f, ← Int.mul_assoc]
  have e2 : c * b * f = c * f * b := by rw [Int.mul_assoc, Int.mul_comm b f, ← Int.mul_assoc]
  have e3 : e * d * b = (e * b) * d := by rw [Int.mul_assoc, Int.mul_comm d b, ← Int.mul_assoc]
  rw [e1, e2] at k1
  rw [e3] at k2
  exact Int.le_of_mul_le_mul_right (Int.le_trans k1 k2) hd

/-- what a door of some bands is -/
structure DrInv (l : List Bd) (k : Nat) (d : Dr) : Prop where
  t : d.t = (bd l 0).t
  v : d.v = hgB (bd l 0)
  lo : ∀ i, 1 ≤ i → i < k → ((bd l i).lo - d.v) * d.d0 ≤ d.n0 * ((bd l i).t - d.t)
  hi : ∀ i, 1 ≤ i → i < k → d.n1 * ((bd l i).t - d.t) ≤ ((bd l i).hi - d.v) * d.d1
  loIs : 2 ≤ k → ∃ i, 1 ≤ i ∧ i < k ∧ ((bd l i).lo - d.v) * d.d0 = d.n0 * ((bd l i).t - d.t)
  hiIs : 2 ≤ k → ∃ i, 1 ≤ i ∧ i < k ∧ ((bd l i).hi - d.v) * d.d1 = d.n1 * ((bd l i).t - d.t)
  pos : 2 ≤ k → 0 < d.d0 ∧ 0 < d.d1

theorem dr_inv {l : List Bd} (h : okB l = true) : ∀ k, 1 ≤ k → k ≤ l.length → DrInv l k (dk l k)
  | 0, h1, _ => absurd h1 (by omega)
  | k + 1, _, hk => by
    obtain ⟨k0, k1, k2⟩ := okB_spec h
    have es := dk_succ l k hk
    rw [bd_eq hk] at es
    rw [es]
    by_cases h0 : k = 0
    · subst h0
      have e : drTake (dk l 0) (bd l 0) = ⟨(bd l 0).t, hgB (bd l 0), 0, 0, 0, 0, 1⟩ := rfl
      rw [e]
      exact ⟨rfl, rfl, fun i h1 h2 => by omega, fun i h1 h2 => by omega, fun h => by omega, fun h => by omega, fun h => by omega⟩
    · obtain ⟨i1, i2, i3, i4, i5, i6, i7⟩ := dr_inv h k (by omega) (by omega)
      have I5 := hide i5
      have I6 := hide i6
      clear i5 i6
      have hm := dk_many l k (by omega)
      have hd := dk_ok h k (by omega) (by omega)
      have hel := okF_el k2 k hk
      rw [bd_eq hk] at hel
      have hb := bdB_spec hel
      have s0 := slope_sl hd hel hb.2.2.2.1
      have s1 := slope_sl hd hel hb.2.2.2.2
      have hdt := (slB_spec s0).1
      have x0 := low_cross (N := (bd l k).lo - (dk l k).v) (D := (bd l k).t - (dk l k).t) hdt
      have x1 := low_cross (N := (bd l k).hi - (dk l k).v) (D := (bd l k).t - (dk l k).t) hdt
      have p0 := lwD_pos (N := (bd l k).lo - (dk l k).v) (D := (bd l k).t - (dk l k).t) hdt
      have p1 := lwD_pos (N := (bd l k).hi - (dk l k).v) (D := (bd l k).t - (dk l k).t) hdt
      have hpos : ∀ i, 1 ≤ i → i < k → 0 < (bd l i).t - (dk l k).t := fun i a b => by
        have := t_lt k2 0 i (by omega) (by omega)
        rw [i1]; omega
      generalize dk l k = d at *
      unfold drTake
      rw [if_neg (by omega)]
      generalize lwN ((bd l k).lo - d.v) ((bd l k).t - d.t) = N0 at *
      generalize lwD ((bd l k).lo - d.v) ((bd l k).t - d.t) = D0 at *
      generalize lwN ((bd l k).hi - d.v) ((bd l k).t - d.t) = N1 at *
      generalize lwD ((bd l k).hi - d.v) ((bd l k).t - d.t) = D1 at *
      refine ⟨i1, i2, ?_, ?_, ?_, ?_, ?_⟩
      · intro i a b
        dsimp only
        by_cases p : d.many = 1 ∨ d.n0 * D0 < N0 * d.d0
        · rw [if_pos p, if_pos p]
          by_cases e : i = k
          · subst e; omega
          · have hk2 : 2 ≤ k := by omega
            rcases p with p | p
            · rw [hm] at p; omega
            · exact frac_trans (hpos i a (by omega)) (i7 hk2).1 (by omega) (i3 i a (by omega)) (Int.le_of_lt p)
        · rw [if_neg p, if_neg p]
          by_cases e : i = k
          · subst e
            have hk2 : 2 ≤ i := by
              rcases Nat.lt_or_ge i 2 with h' | h'
              · exfalso; exact p (.inl (by rw [hm]; omega))
              · exact h'
            have p' : N0 * d.d0 ≤ d.n0 * D0 := by
              rcases Int.lt_or_le (d.n0 * D0) (N0 * d.d0) with h' | h'
              · exact absurd (.inr h') p
              · exact h'
            exact frac_trans (by omega) (show 0 < D0 by omega) (i7 hk2).1 (by omega) p'
          · exact i3 i a (by omega)
      · intro i a b
        dsimp only
        by_cases p : d.many = 1 ∨ N1 * d.d1 < d.n1 * D1
        · rw [if_pos p, if_pos p]
          by_cases e : i = k
          · subst e; omega
          · have hk2 : 2 ≤ k := by omega
            rcases p with p | p
            · rw [hm] at p; omega
            · exact frac_trans (show 0 < D1 by omega) (i7 hk2).2 (hpos i a (by omega)) (Int.le_of_lt p) (i4 i a (by omega))
        · rw [if_neg p, if_neg p]
          by_cases e : i = k
          · subst e
            have hk2 : 2 ≤ i := by
              rcases Nat.lt_or_ge i 2 with h' | h'
              · exfalso; exact p (.inl (by rw [hm]; omega))
              · exact h'
            have p' : d.n1 * D1 ≤ N1 * d.d1 := by
              rcases Int.lt_or_le (N1 * d.d1) (d.n1 * D1) with h' | h'
              · exact absurd (.inr h') p
              · exact h'
            exact frac_trans (i7 hk2).2 (show 0 < D1 by omega) (by omega) p' (by omega)
          · exact i4 i a (by omega)
      · intro _
        dsimp only
        by_cases p : d.many = 1 ∨ d.n0 * D0 < N0 * d.d0
        · rw [if_pos p, if_pos p]
          exact ⟨k, by omega, by omega, by omega⟩
        · rw [if_neg p, if_neg p]
          have hk2 : 2 ≤ k := by
            rcases Nat.lt_or_ge k 2 with h' | h'
            · exfalso; exact p (.inl (by rw [hm]; omega))
            · exact h'
          obtain ⟨i, a, b, e⟩ := I5.out hk2
          exact ⟨i, a, by omega, e⟩
      · intro _
        dsimp only
        by_cases p : d.many = 1 ∨ N1 * d.d1 < d.n1 * D1
        · rw [if_pos p, if_pos p]
          exact ⟨k, by omega, by omega, by omega⟩
        · rw [if_neg p, if_neg p]
          have hk2 : 2 ≤ k := by
            rcases Nat.lt_or_ge k 2 with h' | h'
            · exfalso; exact p (.inl (by rw [hm]; omega))
            · exact h'
          obtain ⟨i, a, b, e⟩ := I6.out hk2
          exact ⟨i, a, by omega, e⟩
      · intro _
        dsimp only
        constructor
        · by_cases p : d.many = 1 ∨ d.n0 * D0 < N0 * d.d0
          · rw [if_pos p]; omega
          · rw [if_neg p]
            have hk2 : 2 ≤ k := by
              rcases Nat.lt_or_ge k 2 with h' | h'
              · exfalso; exact p (.inl (by rw [hm]; omega))
              · exact h'
            exact (i7 hk2).1
        · by_cases p : d.many = 1 ∨ N1 * d.d1 < d.n1 * D1
          · rw [if_pos p]; omega
          · rw [if_neg p]
            have hk2 : 2 ≤ k := by
              rcases Nat.lt_or_ge k 2 with h' | h'
              · exfalso; exact p (.inl (by rw [hm]; omega))
              · exact h'
            exact (i7 hk2).2

/-- some line from the hinge lets them all: no lower end is above an upper one -/
def Opn (l : List Bd) (k : Nat) : Prop := ∀ i j, 1 ≤ i → i < k → 1 ≤ j → j < k → ((bd l i).lo - hgB (bd l 0)) * ((bd l j).t - (bd l 0).t) ≤ ((bd l j).hi - hgB (bd l 0)) * ((bd l i).t - (bd l 0).t)
theorem open_iff {l : List Bd} (h : okB l = true) (k : Nat) (h1 : 1 ≤ k) (hk : k ≤ l.length) : drOpen (dk l k) = true ↔ Opn l k := by
  obtain ⟨k0, k1, k2⟩ := okB_spec h
  obtain ⟨i1, i2, i3, i4, i5, i6, i7⟩ := dr_inv h k h1 hk
  have I5 := hide i5
  have I6 := hide i6
  clear i5 i6
  have hm := dk_many l k hk
  have hpos : ∀ i, 1 ≤ i → i < k → 0 < (bd l i).t - (bd l 0).t := fun i a b => by
    have := t_lt k2 0 i (by omega) (by omega)
    omega
  generalize dk l k = d at *
  rw [i1, i2] at i3 i4 I5 I6
  unfold drOpen Opn
  rw [decide_eq_true_iff]
  constructor
  · rintro (h' | h') i j a b a' b'
    · omega
    · have hk2 : 2 ≤ k := by omega
      obtain ⟨q0, q1⟩ := i7 hk2
      have e1 := frac_trans (hpos i a b) q0 q1 (i3 i a b) h'
      exact frac_trans (hpos i a b) q1 (hpos j a' b') e1 (i4 j a' b')
  · intro H
    by_cases e1 : k = 1
    · left; rw [hm, e1]; rfl
    · right
      have hk2 : 2 ≤ k := by omega
      obtain ⟨q0, q1⟩ := i7 hk2
      obtain ⟨i, a, b, e⟩ := I5.out hk2
      obtain ⟨j, a', b', e'⟩ := I6.out hk2
      have hh := H i j a b a' b'
      have e2 := frac_trans q0 (hpos i a b) (hpos j a' b') (Int.le_of_eq e.symm) hh
      exact frac_trans q0 (hpos j a' b') q1 e2 (Int.le_of_eq e')

theorem win_iff {A R N D dt l h : Int} (hI : isB A R N D = true) (ht : tmB dt = true) : winB A R N D dt l h = true ↔ l * D ≤ N * dt + R + A * D ∧ N * dt + R + A * D ≤ h * D := by
  have hD := (isB_spec hI).2.1.1
  unfold winB
  rw [decide_eq_true_iff]
  have e0 : lnQ A R N D dt = (N * dt + R) / D + A := rfl
  rw [e0]
  generalize N * dt + R = X
  have hX : X = X / D * D + X % D := by
    have := Int.mul_ediv_add_emod X D
    rw [Int.mul_comm] at this
    omega
  have r0 := Int.emod_nonneg X (show D ≠ 0 by omega)
  have r1 := Int.emod_lt_of_pos X (show 0 < D by omega)
  generalize X / D = q at *
  generalize X % D = r at *
  have eq1 : X + A * D = (q + A) * D + r := by rw [Int.add_mul]; omega
  rw [eq1]
  generalize q + A = Q
  have m1 : ∀ a b : Int, a ≤ b → a * D ≤ b * D := fun a b h => Int.mul_le_mul_of_nonneg_right h (by omega)
  have s1 : (Q + 1) * D = Q * D + D := by rw [Int.add_mul]; omega
  constructor
  · rintro ⟨-, -, h1, h2⟩
    refine ⟨?_, ?_⟩
    · have := m1 _ _ h1; omega
    · rcases h2 with h2 | ⟨h2, h3⟩
      · have := m1 (Q + 1) h (by omega); omega
      · rw [h2]; omega
  · rintro ⟨h1, h2⟩
    refine ⟨hI, ht, ?_, ?_⟩
    · rcases Int.lt_or_le Q l with h' | h'
      · have := m1 (Q + 1) l (by omega); omega
      · exact h'
    · rcases Int.lt_trichotomy Q h with h' | h' | h'
      · exact .inl h'
      · refine .inr ⟨h', ?_⟩
        rw [h'] at h2; omega
      · have := m1 (h + 1) Q (by omega)
        have s2 : (h + 1) * D = h * D + D := by rw [Int.add_mul]; omega
        omega
theorem isB_zero {A N D : Int} (hA : bkB A = true) (hl : Low N D) : isB A 0 N D = true := by
  unfold isB
  rw [decide_eq_true_iff]
  exact ⟨hA, hl.1, hl.2, Int.le_refl _, by have := (slB_spec hl.1).1; omega⟩
theorem tm_of {dt : Int} (h1 : 0 ≤ dt) (h2 : dt ≤ 281474976710656) : tmB dt = true := decide_eq_true ⟨h1, h2⟩
end Go.Proofs.YtpimkigbdjfjoaaDoor

namespace Go.Proofs.YtpimkigbdjfjoaaDoor
open Go.RowKit

theorem nr_mid {a b c d : Int} (h : Low a b) (h' : Low c d) (hc : a * d ≤ c * b) : a * nrD a b c d ≤ nrN a b c d * b ∧ nrN a b c d * d ≤ c * nrD a b c d := by
  unfold nrN nrD
  by_cases h1 : 0 < a
  · rw [if_pos h1, if_pos h1, h.2.1, h.2.2]
    exact ⟨Int.le_refl _, hc⟩
  · rw [if_neg h1, if_neg h1]
    by_cases h2 : c < 0
    · rw [if_pos h2, if_pos h2, h'.2.1, h'.2.2]
      exact ⟨hc, Int.le_refl _⟩
    · rw [if_neg h2, if_neg h2]
      simp
      omega

theorem fit_slope {l : List Bd} (h : okB l = true) (ho : drOpen (dk l l.length) = true) (i : Nat) (h1 : 1 ≤ i) (hi : i < l.length) :
    ((bd l i).lo - hgB (bd l 0)) * flD (dk l l.length) ≤ flN (dk l l.length) * ((bd l i).t - (bd l 0).t) ∧ flN (dk l l.length) * ((bd l i).t - (bd l 0).t) ≤ ((bd l i).hi - hgB (bd l 0)) * flD (dk l l.length) := by
  obtain ⟨k0, k1, k2⟩ := okB_spec h
  obtain ⟨i1, i2, i3, i4, i5, i6, i7⟩ := dr_inv h l.length (by omega) (Nat.le_refl _)
  clear i5 i6
  have hm := dk_many l l.length (Nat.le_refl _)
  have hd := dk_ok h l.length (by omega) (Nat.le_refl _)
  have hpos : 0 < (bd l i).t - (bd l 0).t := by
    have := t_lt k2 0 i (by omega) (by omega)
    omega
  have hl := fl_low hd
  have hfl : 0 < flD (dk l l.length) := by have := (slB_spec hl.1).1; omega
  unfold flN flD at *
  have n1 : ¬ (dk l l.length).many = 1 := by rw [hm]; omega
  rw [if_neg n1] at hfl ⊢
  rw [if_neg n1]
  obtain ⟨l0, l1⟩ := hd.two n1
  have hc : (dk l l.length).n0 * (dk l l.length).d1 ≤ (dk l l.length).n1 * (dk l l.length).d0 := by
    have := of_decide_eq_true ho
    omega
  obtain ⟨m1, m2⟩ := nr_mid l0 l1 hc
  obtain ⟨q0, q1⟩ := i7 (by omega)
  have a1 := i3 i h1 hi
  have a2 := i4 i h1 hi
  rw [i1, i2] at a1 a2
  exact ⟨frac_trans hpos q0 hfl a1 m1, frac_trans hfl q1 hpos m2 a2⟩

theorem fit_win {l : List Bd} (h : okB l = true) (ho : drOpen (dk l l.length) = true) (i : Nat) (hi : i < l.length) :
    winB (dk l l.length).v 0 (flN (dk l l.length)) (flD (dk l l.length)) ((bd l i).t - (bd l 0).t) (bd l i).lo (bd l i).hi = true := by
  obtain ⟨k0, k1, k2⟩ := okB_spec h
  have hd := dk_ok h l.length (by omega) (Nat.le_refl _)
  have hv := (dr_inv h l.length (by omega) (Nat.le_refl _)).v
  have hl := fl_low hd
  have r0 := bd_rg k2 0 k0
  have ri := bd_rg k2 i hi
  have hdt : 0 ≤ (bd l i).t - (bd l 0).t := by
    by_cases e : i = 0
    · subst e; omega
    · have := t_lt k2 0 i (by omega) hi
      omega
  rw [win_iff (isB_zero hd.v hl) (tm_of hdt (by omega)), hv]
  have hD := (slB_spec hl.1).1
  by_cases e : i = 0
  · subst e
    have hm := hgB_mid r0.2.2.1
    rw [Int.sub_self, Int.mul_zero]
    have x1 := Int.mul_le_mul_of_nonneg_right hm.1 (show (0 : Int) ≤ flD (dk l l.length) by omega)
    have x2 := Int.mul_le_mul_of_nonneg_right hm.2 (show (0 : Int) ≤ flD (dk l l.length) by omega)
    omega
  · have := fit_slope h ho i (by omega) hi
    rw [Int.sub_mul, Int.sub_mul] at this
    omega

theorem thrB_all {x y n d t0 : Int} {l : List Bd} (h : ∀ i, i < l.length → winB x y n d ((bd l i).t - t0) (bd l i).lo (bd l i).hi = true) : thrB x y n d t0 l = true := by
  unfold thrB
  rw [List.all_eq_true]
  intro b hb
  obtain ⟨i, hi, rfl⟩ := List.mem_iff_getElem.1 hb
  rw [bd_eq hi]
  exact h i hi
theorem thrB_el {x y n d t0 : Int} {l : List Bd} (h : thrB x y n d t0 l = true) (i : Nat) (hi : i < l.length) : winB x y n d ((bd l i).t - t0) (bd l i).lo (bd l i).hi = true := by
  unfold thrB at h
  rw [List.all_eq_true] at h
  have := h l[i] (List.getElem_mem hi)
  rw [bd_eq hi] at this
  exact this
theorem fit_thr {l : List Bd} (h : okB l = true) (ho : drOpen (dk l l.length) = true) : thrB (dk l l.length).v 0 (flN (dk l l.length)) (flD (dk l l.length)) (l.headD ⟨0, 0, 0⟩).t l = true := by
  rw [bd_head (okB_spec h).1]
  exact thrB_all fun i hi => fit_win h ho i hi

theorem win_at {A R N D dt lo hi : Int} (h : winB A R N D dt lo hi = true) (h1 : -2305844108725321728 ≤ lo) (h2 : hi ≤ 2305844108725321728) : atE A R N D dt = 0 ∧ lo ≤ atV A R N D dt ∧ atV A R N D dt ≤ hi := by
  unfold winB at h
  rw [decide_eq_true_iff] at h
  obtain ⟨q1, q2, q3, q4⟩ := h
  have hq : bkB (lnQ A R N D dt) = true := bk_of (by omega) (by omega)
  unfold atE atV
  rw [if_pos q1, if_pos q2, if_pos hq, if_pos ⟨q1, q2, hq⟩]
  exact ⟨rfl, q3, by omega⟩
theorem one_open {l : List Bd} (h : okB l = true) (h1 : l.length = 1) : drOpen (dk l l.length) = true := by
  have hm := dk_many l l.length (Nat.le_refl _)
  unfold drOpen
  rw [decide_eq_true_iff]
  left; rw [hm, h1]; rfl
end Go.Proofs.YtpimkigbdjfjoaaDoor

namespace Go.Proofs.YtpimkigbdjfjoaaDoor
open Go.RowKit

def L4 : List Bd := [⟨0, 0, 0⟩, ⟨1, 2, 2⟩, ⟨2, 3, 3⟩, ⟨3, 4, 4⟩]
def L2 : List Bd := [⟨0, 0, 0⟩, ⟨1, 2, 2⟩]
theorem L4_ok : okB L4 = true := by decide +kernel
theorem L2_ok : okB L2 = true := by decide +kernel
theorem L4_shut : drOpen (dk L4 L4.length) = false := by decide +kernel
theorem L2_open : drOpen (dk L2 L2.length) = true := by decide +kernel
theorem L2_v : (dk L2 L2.length).v = 0 := by decide +kernel
theorem L2_N : flN (dk L2 L2.length) = 2 := by decide +kernel
theorem L2_D : flD (dk L2 L2.length) = 1 := by decide +kernel
theorem L2_thr : thrB 0 0 2 1 (L2.headD ⟨0, 0, 0⟩).t L2 = true := by decide +kernel
theorem L4_cuts : cuts L4 = [2, 2] := by
  have e1 : firstN L4 = 2 := by decide +kernel
  have e2 : firstN (L4.drop 2) = 2 := by decide +kernel
  rw [cuts_cons (by decide), e1, cuts_cons (by decide), e2, cuts_nil (by decide)]

theorem L4_br (w : World) : BR (w.alloc (.cells #[.int .i64 0, .int .i64 0, .int .i64 0, .int .i64 1, .int .i64 2, .int .i64 2, .int .i64 2, .int .i64 3, .int .i64 3, .int .i64 3, .int .i64 4, .int .i64 4] 37)) (some ⟨w.heap.size, 0, none⟩) 4 L4 :=
  ⟨by decide, by decide, fun _ => ⟨w.heap.size, 0, _, rfl, na w _ _, fun i hi => by
    have : i = 0 ∨ i = 1 ∨ i = 2 ∨ i = 3 := by
      have : L4.length = 4 := rfl
      omega
    rcases this with rfl | rfl | rfl | rfl <;> exact ⟨rfl, rfl, rfl⟩⟩⟩

theorem rd_two {w : World} {g : Nat} (h : w.heap[g]? = some (.cells #[.int .i64 2, .int .i64 2] 3 (0, 0))) : Rd w (some ⟨g, 0, none⟩) 2 [2, 2] :=
  ⟨by decide, fun _ => ⟨g, _, rfl, h, fun i hi => by
    have : i = 0 ∨ i = 1 := by simp at hi; omega
    rcases this with rfl | rfl <;> rfl⟩⟩

end Go.Proofs.YtpimkigbdjfjoaaDoor
