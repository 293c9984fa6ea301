/- swing.parts[int], Cut at this program. -/
import Derived.Test.YtfdaabdibpcjeaaSwing9
set_option linter.unusedSimpArgs false
set_option linter.unusedVariables false
namespace Go.Proofs.Ytfdaabdibpcjeaa
open Go.RowKit

/-- how many bands swing from the first one on -/
def firstN (l : List Bd) : Nat := ((List.range l.length).takeWhile fun k => drOpen (dk l (k + 1))).length
theorem takeWhile_spec (p : Nat → Bool) (n : Nat) : ((List.range n).takeWhile p).length ≤ n ∧ (∀ k, k < ((List.range n).takeWhile p).length → p k = true) ∧ (((List.range n).takeWhile p).length < n → p ((List.range n).takeWhile p).length = false) := by
  induction n with
  | zero => exact ⟨by simp, fun k h => by simp at h, fun h => by simp at h⟩
  | succ n ih =>
    obtain ⟨h1, h2, h3⟩ := ih
    rw [List.range_succ]
    by_cases he : ((List.range n).takeWhile p).length = n
    · have hall : ∀ x ∈ List.range n, p x = true := fun x hx => h2 x (by rw [he]; exact List.mem_range.1 hx)
      rw [List.takeWhile_append_of_pos hall]
      cases hp : p n
      · simp [List.takeWhile, hp]
        intro k hk
        exact h2 k (by omega)
      · simp [List.takeWhile, hp]
        intro k hk
        by_cases e : k = n
        · rw [e]; exact hp
        · exact h2 k (by omega)
    · have hlt : ((List.range n).takeWhile p).length < n := by omega
      have e : ((List.range n) ++ [n]).takeWhile p = (List.range n).takeWhile p := by
        rw [List.takeWhile_append]
        rw [if_neg (by rw [List.length_range]; exact he)]
      rw [e]
      exact ⟨by omega, h2, fun _ => h3 hlt⟩
theorem firstN_is (l : List Bd) : IsFirst l (firstN l) := by
  obtain ⟨h1, h2, h3⟩ := takeWhile_spec (fun k => drOpen (dk l (k + 1))) l.length
  exact ⟨h1, h2, h3⟩
theorem firstN_pos {l : List Bd} (h : 0 < l.length) : 0 < firstN l := first_pos (firstN_is l) h

/-- how many bands are in each part -/
def cuts (l : List Bd) : List Nat := if h : 0 < l.length then firstN l :: cuts (l.drop (firstN l)) else []
termination_by l.length
decreasing_by
  have := firstN_pos h
  rw [List.length_drop]
  omega
theorem cuts_nil {l : List Bd} (h : ¬ 0 < l.length) : cuts l = [] := by rw [cuts, dif_neg h]
theorem cuts_cons {l : List Bd} (h : 0 < l.length) : cuts l = firstN l :: cuts (l.drop (firstN l)) := by rw [cuts, dif_pos h]
theorem okF_mono : ∀ (l : List Bd) (a b : Int), b ≤ a → okF a l = true → okF b l = true
  | [], _, _, _, _ => rfl
  | x :: l, a, b, h, hx => by
    rw [okF, Bool.and_eq_true] at hx ⊢
    refine ⟨?_, hx.2⟩
    have := bdB_spec hx.1
    unfold bdB
    simp only [Bool.and_eq_true, decide_eq_true_eq]
    exact ⟨⟨⟨⟨by omega, this.2.1⟩, this.2.2.1⟩, this.2.2.2.1⟩, this.2.2.2.2⟩
theorem okF_drop : ∀ (l : List Bd) (a : Int), -1 ≤ a → okF a l = true → ∀ k, okF (-1) (l.drop k) = true
  | [], _, _, _, k => by simp [okF]
  | x :: l, a, ha, hx, 0 => okF_mono _ a (-1) ha hx
  | x :: l, a, ha, hx, k + 1 => by
    rw [okF, Bool.and_eq_true] at hx
    have := (bdB_spec hx.1).1
    exact okF_drop l x.t (by omega) hx.2 k

theorem unhide {p : Prop} (h : Hid p) : p := h
def lenS : Value → Nat
  | .slice _ n _ => n
  | _ => 0

set_option maxRecDepth 100000 in
theorem swing_Cut1 (n t v n0 d0 n1 d1 m : Int) (w : World) : Calls Try.prog 44 #[.int .i64 n, .agg #[.int .i64 t, .int .i64 v, .int .i64 n0, .int .i64 d0, .int .i64 n1, .int .i64 d1, .int .i64 m]] w fun e w' => e = .returned (.int .i64 n) ∧ Below w.heap.size w w' := by
  go_enter Try.func44, Try.ntmps44
  go_wp2
  go_ret
  exact ⟨rfl, bA (b0 w) _⟩

set_option maxRecDepth 100000 in
set_option maxHeartbeats 1000000 in
theorem parts_int_no (A : Option Addr) (c : Nat) (l : List Bd) (h : okB l = false) (fv : Value) (w : World) (hR : BR w A c l) :
    Calls Try.prog 43 #[.slice A l.length c, fv] w fun e w' => e = .returned (.tuple #[.slice none 0 0, .int .i64 180]) ∧ Below w.heap.size w w' := by
  have c1 := pmc_Check A c l
  rw [chE_no h] at c1
  go_enter Try.func43, Try.ntmps43
  go_wp2_with fail
  refine (c1 _ hR).mono ?_
  rintro e w1 ⟨rfl, hb1⟩
  have hB1 := bB (b0 w) hb1
  go_wp2
  go_ret2
  exact ⟨rfl, hB1⟩

set_option maxRecDepth 100000 in
set_option maxHeartbeats 2000000 in
theorem parts_int_yes (A : Option Addr) (c : Nat) (l : List Bd) (h : okB l = true) (w : World) (hR : BR w A c l) :
    Calls Try.prog 43 #[.slice A l.length c, .func (Fn.func 44) #[] #[]] w fun e w' => ∃ v, e = .returned (.tuple #[v, .int .i64 0]) ∧ Own w.heap.size w' v (cuts l) ∧ Below w.heap.size w w' := by
  obtain ⟨k0, k1, k2⟩ := okB_spec h
  have c1 := pmc_Check A c l
  rw [chE_yes h] at c1
  go_enter Try.func43, Try.ntmps43
  go_wp2_with fail
  refine (c1 _ hR).mono ?_
  rintro e w1 ⟨rfl, hb1⟩
  have hB1 := bB (b0 w) hb1
  clear c1
  go_wp2_with fail
  go_loopw [0, 7] (fun v0 v7 wr => ∃ (m : Nat) (A' : Option Addr) (c' : Nat) (ns : List Nat), v0 = .slice A' (l.drop m).length c' ∧ BR w A' c' (l.drop m) ∧ Own w.heap.size wr v7 ns ∧ Hid (cuts l = ns ++ cuts (l.drop m)) ∧ Hid (ns.length ≤ m ∧ m ≤ l.length) ∧ Below w.heap.size w wr) (fun v0 _ _ => lenS v0)
  case atStart => exact ⟨0, A, c, [], rfl, hR, Own.nil _ _, hide rfl, hide ⟨Nat.le_refl _, Nat.zero_le _⟩, hB1⟩
  case round =>
    obtain ⟨m, A', c', ns, rfl, hR', ho, hc, hm, hb⟩ := hrel
    have hl2 : (l.drop m).length ≤ 256 := by rw [List.length_drop]; omega
    have hok2 := okF_drop l (-1) (Int.le_refl _) k2 m
    have hdd := fun k => List.drop_drop (l := l) (i := k) (j := m)
    have hml : (l.drop m).length = l.length - m := List.length_drop
    generalize l.drop m = r at *
    have HDD := hide hdd
    have HML := hide hml
    have HOK := hide hok2
    clear hdd hml hok2
    by_cases hd : 0 < r.length
    · have hn := firstN_is r
      have c2 := swing_first A' c' r HOK.out hl2 hd
      have hcc := cuts_cons hd
      have hn0 := firstN_pos hd
      have hu := fun n (h : IsFirst r n) => h.uniq hn
      have hnl := hn.le
      generalize firstN r = n at *
      have HU := hide hu
      have HCC := hide hcc
      have C2 := hide (c2 _ (hR'.below hb))
      clear hu hcc hn c2
      go_wp2_with fail
      refine (unhide C2).mono ?_
      rintro e w2 ⟨n', hn', rfl, hb2⟩
      obtain rfl := HU.out n' hn'
      unfold Dr.cs
      generalize dk r n' = d
      obtain ⟨dt, dv, n0, d0, n1', d1, dm⟩ := d
      clear C2 HU hn'
      have HB2 := bB hb hb2
      have ho2 := ho.lift hb2
      clear hb2 ho hR
      go_wp2_with fail
      refine (swing_Cut1 _ _ _ _ _ _ _ _ _).mono ?_
      rintro e w3 ⟨rfl, hb3⟩
      have HB3 := bB (bA HB2 _) hb3
      have ho3 := ho2.lift (bB (bA (b0 w2) _) hb3)
      clear hb3 ho2 HB2
      have k1 : ns.length + [n'].length ≤ 4096 := by have := hm.out; simp; omega
      have hcap := hR'.cap
      go_wp2_with (at_builtin; refine wpList_push rfl _ _ rfl w.heap.size _ ns [n'] _ _ rfl rfl (ho3.lift (bA (b0 _) _)) (Rd.oneI _ _ _ rfl) k1 (bA HB3 _).size ?_; intro v1 w5 ho5 hb5 hs5)
      have hdr := HDD.out n'
      refine ⟨⟨m + n', (if r.length = n' then A' else A'.map (fun x => x.add (n' * 3))), r.length - n', ns ++ [n'], ?_, ?_, ho5, hide ?_, hide ?_, hb5 _ (bA HB3 _)⟩, ?_⟩
      · rw [← hdr, List.length_drop]
      · rw [← hdr]
        exact hR'.drop n' hnl (Nat.le_refl _) hcap
      · rw [hc.out, HCC.out, ← hdr, List.append_assoc]; rfl
      · have h1 := hm.out
        have h2 := HML.out
        rw [List.length_append]
        simp
        omega
      · show r.length - n' < r.length
        omega
    · obtain rfl : r = [] := List.eq_nil_of_length_eq_zero (by omega)
      have hcf := hc.out
      rw [cuts_nil (l := []) (by simp), List.append_nil] at hcf
      have HC := hide hcf
      clear hcf hc hd
      go_wp2
      go_ret2
      exact ⟨_, rfl, by rw [HC.out]; exact ho, hb⟩

theorem swing_Cut_no (A : Option Addr) (c : Nat) (l : List Bd) (h : okB l = false) (w : World) (hR : BR w A c l) :
    Calls Try.prog 19 #[.slice A l.length c] w fun e w' => e = .returned (.tuple #[.slice none 0 0, .int .i64 180]) ∧ Below w.heap.size w w' := by
  have c1 := parts_int_no A c l h (.func (Fn.func 44) #[] #[])
  go_enter Try.func19, Try.ntmps19
  go_wp2_with fail
  refine (c1 _ hR).mono ?_
  rintro e w1 ⟨rfl, hb1⟩
  have hB1 := bB (b0 w) hb1
  go_wp2
  go_ret2
  exact ⟨rfl, hB1⟩

theorem swing_Cut_yes (A : Option Addr) (c : Nat) (l : List Bd) (h : okB l = true) (w : World) (hR : BR w A c l) :
    Calls Try.prog 19 #[.slice A l.length c] w fun e w' => ∃ A' c', e = .returned (.tuple #[.slice A' (cuts l).length c', .int .i64 0]) ∧ Rd w' A' c' (cuts l) ∧ Below w.heap.size w w' := by
  have c1 := parts_int_yes A c l h
  go_enter Try.func19, Try.ntmps19
  go_wp2_with fail
  refine (c1 _ hR).mono ?_
  rintro e w1 ⟨v, rfl, ho, hb1⟩
  go_wp2
  go_ret2
  obtain ⟨A', c', rfl, hr⟩ := ho.rd
  exact ⟨A', c', rfl, hr, hb1⟩
end Go.Proofs.Ytfdaabdibpcjeaa
