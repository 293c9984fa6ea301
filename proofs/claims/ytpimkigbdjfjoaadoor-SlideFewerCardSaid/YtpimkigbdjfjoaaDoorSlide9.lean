/- slide.Longest, Cut at this program. -/
import Derived.Test.YtpimkigbdjfjoaaDoorSlide8
set_option linter.unusedSimpArgs false
set_option linter.unusedVariables false
namespace Go.Proofs.YtpimkigbdjfjoaaDoor
open Go.RowKit
variable {ta : TypeId}
attribute [local go_sem] Oper.semAt_some

/-! ### Longest -/
set_option maxRecDepth 100000 in
theorem longest1 (g n c : Nat) (A : Option Addr) (s : Sl × Sl) (w : World) (hg : w.heap[g]? = some (.cells (fcs s (.slice A n c)) 78 (0, 0))) :
    Calls Tryd.prog 58 #[.pointer (some ⟨g, 0, none⟩)] w fun e w' => e = .returned (.tuple #[.int .i64 n, .int .i64 0]) ∧ Below w.heap.size w w' := by
  unfold fcs at hg
  go_enter Tryd.func58, Tryd.ntmps58
  obtain ⟨zg_a, zg_b, lg0⟩ := rcell hg
  go_wp2
  go_ret2
  exact ⟨rfl, b0 w⟩

set_option maxRecDepth 100000 in
theorem tells_int_no (A : Option Addr) (c : Nat) (l : List Bd) (h : okB l = false) (fv : Value) (w : World) (hR : BR w A c l) :
    Calls Tryd.prog 57 #[.slice A l.length c, fv] w fun e w' => e = .returned (.tuple #[.int .i64 0, .int .i64 180]) ∧ Below w.heap.size w w' := by
  have c1 := pmc_Check A c l
  rw [chE_no h] at c1
  go_enter Tryd.func57, Tryd.ntmps57
  go_wp2_with fail
  refine (c1 _ hR).mono ?_
  rintro e w1 ⟨rfl, hb1⟩
  have hB1 := bB (b0 w) hb1
  go_wp2
  go_ret2
  exact ⟨rfl, hB1⟩

set_option maxRecDepth 100000 in
theorem tells_int_yes (A : Option Addr) (c : Nat) (l : List Bd) (h : okB l = true) (w : World) (hall : w.heap[0]? = some (.cells all4 ta (0, 0))) (hR : BR w A c l) :
    Calls Tryd.prog 57 #[.slice A l.length c, .func (Fn.func 58) #[] #[]] w fun e w' => e = .returned (.tuple #[.int .i64 (firstS l), .int .i64 0]) ∧ Below w.heap.size w w' := by
  obtain ⟨k0, k1, k2⟩ := okB_spec h
  have c1 := pmc_Check A c l
  rw [chE_yes h] at c1
  have c2 := slide_longest (ta := ta) A c l k2 k1
  have htl : (l.take (firstS l)).length = firstS l := by rw [List.length_take]; have := (firstS_is l).le; omega
  go_enter Tryd.func57, Tryd.ntmps57
  obtain ⟨za_a, za_b, la0⟩ := rcell hall
  go_wp2_with fail
  refine (c1 _ hR).mono ?_
  rintro e w1 ⟨rfl, hb1⟩
  have f_a1 := kp hb1 (hall)
  have hB1 := bB (b0 w) hb1
  clear za_a za_b
  obtain ⟨za_a, za_b, la1⟩ := rcell f_a1
  go_wp2_with fail
  refine (c2 _ (f_a1) (hR.below hB1)).mono ?_
  rintro e w2 ⟨v, rfl, hg2, ho2, hb2⟩
  obtain ⟨A', c', rfl, -⟩ := ho2.br
  rw [htl] at hg2
  have B2 := bB hB1 hb2
  clear ho2
  go_wp2_with fail
  refine (longest1 _ _ _ _ _ _ hg2).mono ?_
  rintro e w2 ⟨rfl, hb2⟩
  have hB2 := bB B2 hb2
  go_wp2
  go_ret2
  exact ⟨rfl, hB2⟩

section
variable (A : Option Addr) (c : Nat) (l : List Bd)
theorem slide_Longest_no (h : okB l = false) (w : World) (hR : BR w A c l) :
    Calls Tryd.prog 22 #[.slice A l.length c] w fun e w' => e = .returned (.tuple #[.int .i64 0, .int .i64 180]) ∧ Below w.heap.size w w' := by
  have c1 := tells_int_no A c l h
  go_enter Tryd.func22, Tryd.ntmps22
  go_wp2_with fail
  refine (c1 _ _ hR).mono ?_
  rintro e w1 ⟨rfl, hb1⟩
  have hB1 := bB (b0 w) hb1
  go_wp2
  go_ret2
  exact ⟨rfl, hB1⟩
theorem slide_Longest_yes (h : okB l = true) (w : World) (hall : w.heap[0]? = some (.cells all4 ta (0, 0))) (hR : BR w A c l) :
    Calls Tryd.prog 22 #[.slice A l.length c] w fun e w' => e = .returned (.tuple #[.int .i64 (firstS l), .int .i64 0]) ∧ Below w.heap.size w w' := by
  have c1 := tells_int_yes (ta := ta) A c l h
  go_enter Tryd.func22, Tryd.ntmps22
  go_wp2_with fail
  refine (c1 _ hall hR).mono ?_
  rintro e w1 ⟨rfl, hb1⟩
  have hB1 := bB (b0 w) hb1
  go_wp2
  go_ret2
  exact ⟨rfl, hB1⟩
end

/-! ### Cut -/
theorem longest_len (A : Option Addr) (c k : Nat) (l : List Bd) (hk : l.length = k) (hok : okF (-1) l = true) (hl : l.length ≤ 256) (w : World) (hall : w.heap[0]? = some (.cells all4 ta (0, 0))) (hR : BR w A c l) :
    Calls Tryd.prog 61 #[.slice A k c] w fun e w' => ∃ A2 c2, e = .returned (.pointer (some ⟨w.heap.size, 0, none⟩)) ∧ w'.heap[w.heap.size]? = some (.cells (fcs (sk l (firstS l)) (.slice A2 (firstS l) c2)) 78 (0, 0)) ∧ Below w.heap.size w w' := by
  subst hk
  refine (slide_longest A c l hok hl w hall hR).mono ?_
  rintro e w' ⟨v, rfl, hg, ho, hb⟩
  obtain ⟨A2, c2, rfl, -⟩ := ho.br
  have htl : (l.take (firstS l)).length = firstS l := by rw [List.length_take]; have := (firstS_is l).le; omega
  rw [htl] at hg
  exact ⟨A2, c2, rfl, hg, hb⟩

set_option maxRecDepth 100000 in
set_option maxHeartbeats 2000000 in
theorem slide_Cut1 (p c g n c2 : Nat) (A A2 : Option Addr) (l : List Bd) (hok : Hid (okF (-1) l = true)) (hl : l.length ≤ 256) (s : Sl × Sl) (hn : Hid (n = firstS l)) (w : World) (hall : w.heap[0]? = some (.cells all4 ta (0, 0)))
    (hp : w.heap[p]? = some (.cells #[.slice A l.length c] 22 (0, 0))) (hR : BR w A c l) (hg : w.heap[g]? = some (.cells (fcs s (.slice A2 n c2)) 78 (0, 0))) :
    Calls Tryd.prog 60 #[.pointer (some ⟨g, 0, none⟩), .pointer (some ⟨p, 0, none⟩)] w fun e w' => ∃ v, e = .returned (.tuple #[v, .int .i64 0]) ∧ Own w.heap.size w' v (cutsS l) ∧ Below w.heap.size w w' := by
  go_enter Tryd.func60, Tryd.ntmps60
  obtain ⟨zp_a, zp_b, lp0⟩ := rcell hp
  go_wp2_with fail
  clear zp_a zp_b
  go_loopw [0, 5, 6] (fun v0 v5 v6 wr => ∃ (m g n c2 : Nat) (A2 : Option Addr) (s : Sl × Sl) (A' : Option Addr) (c' : Nat) (ns : List Nat), v0 = .pointer (some ⟨g, 0, none⟩) ∧ v6 = .slice A' (l.drop m).length c' ∧ BR w A' c' (l.drop m) ∧ Own w.heap.size wr v5 ns ∧ wr.heap[g]? = some (.cells (fcs s (.slice A2 n c2)) 78 (0, 0)) ∧ Hid (n = firstS (l.drop m)) ∧ Hid (cutsS l = ns ++ cutsS (l.drop m)) ∧ Hid (ns.length ≤ m ∧ m ≤ l.length) ∧ Below w.heap.size w wr) (fun _ _ v6 _ => lenS v6)
  case atStart => exact ⟨0, g, n, c2, A2, s, A, c, [], rfl, rfl, hR, Own.nil _ _, hg, hn, hide rfl, hide ⟨Nat.le_refl _, Nat.zero_le _⟩, (b0 w)⟩
  case round =>
    obtain ⟨m, g, n, c2, A2, s, A', c', ns, rfl, rfl, hR', ho, hg', hn', hc, hm, hb⟩ := hrel
    clear hg hn
    have hl2 : (l.drop m).length ≤ 256 := by rw [List.length_drop]; omega
    have hok2 := okF_drop l (-1) (Int.le_refl _) hok.out m
    have hdd := fun k => List.drop_drop (l := l) (i := k) (j := m)
    have hml : (l.drop m).length = l.length - m := List.length_drop
    generalize l.drop m = r at *
    have HDD := hide hdd
    have HML := hide hml
    have HOK := hide hok2
    clear hdd hml hok2
    unfold fcs at hg'
    by_cases hd : 0 < r.length
    · have hcc := cutsS_cons hd
      have hn0 := firstS_pos hd
      have hnl := (firstS_is r).le
      rw [← hn'.out] at hcc hn0 hnl
      have HCC := hide hcc
      clear hcc
      have k1 : ns.length + [n].length ≤ 4096 := by have := hm.out; simp; omega
      have hcap := hR'.cap
      obtain ⟨zg1, zg2, zg3⟩ := rcell hg'
      by_cases hrn : r.length = n
      · have hR5 := hR'.drop n hnl (Nat.le_refl _) hcap
        rw [if_pos hrn, hrn, Nat.sub_self] at hR5
        go_wp2_with (at_builtin; refine wpList_push rfl _ _ rfl w.heap.size _ ns [n] _ _ rfl rfl (ho.lift (bA (b0 _) _)) (Rd.oneI _ _ _ rfl) k1 (bA hb _).size ?_; intro v1 w5 ho5 hb5 hs5)
        have hB5 := hb5 _ (bA hb _)
        refine (longest_len _ _ _ (r.drop n) (by rw [List.length_drop] <;> omega) (okF_drop r (-1) (Int.le_refl _) HOK.out n) (by rw [List.length_drop] <;> omega) w5 (kp hB5 hall) (hR5.below hB5)).mono ?_
        rintro e w6 ⟨A6, c6, rfl, hg6, hb6⟩
        have HB6 := hide (bB hB5 hb6)
        have HO6 := hide (ho5.lift hb6)
        have HG6 := hide hg6
        have HR5 := hide hR5
        clear hb6 hg6 ho5 hb5 hs5 hB5 hg' zg1 zg2 zg3 ho hb hR' hR5
        have hdr := HDD.out n
        go_wp2
        refine ⟨⟨m + n, _, firstS (r.drop n), c6, A6, _, _, _, ns ++ [n], rfl, by rw [← hdr]; congr 1 <;> (rw [List.length_drop] <;> omega), by rw [← hdr]; exact HR5.out, HO6.out, HG6.out, hide (by rw [← hdr]), hide ?_, hide ?_, HB6.out⟩, ?_⟩
        · rw [hc.out, HCC.out, ← hdr, List.append_assoc]; rfl
        · have h1 := hm.out
          have h2 := HML.out
          rw [List.length_append]
          simp
          omega
        · simp only [lenS]
          omega
      · have hR5 := hR'.drop n hnl (Nat.le_refl _) hcap
        rw [if_neg hrn] at hR5
        go_wp2_with (at_builtin; refine wpList_push rfl _ _ rfl w.heap.size _ ns [n] _ _ rfl rfl (ho.lift (bA (b0 _) _)) (Rd.oneI _ _ _ rfl) k1 (bA hb _).size ?_; intro v1 w5 ho5 hb5 hs5)
        have hB5 := hb5 _ (bA hb _)
        refine (longest_len _ _ _ (r.drop n) (by rw [List.length_drop] <;> omega) (okF_drop r (-1) (Int.le_refl _) HOK.out n) (by rw [List.length_drop] <;> omega) w5 (kp hB5 hall) (hR5.below hB5)).mono ?_
        rintro e w6 ⟨A6, c6, rfl, hg6, hb6⟩
        have HB6 := hide (bB hB5 hb6)
        have HO6 := hide (ho5.lift hb6)
        have HG6 := hide hg6
        have HR5 := hide hR5
        clear hb6 hg6 ho5 hb5 hs5 hB5 hg' zg1 zg2 zg3 ho hb hR' hR5
        have hdr := HDD.out n
        go_wp2
        refine ⟨⟨m + n, _, firstS (r.drop n), c6, A6, _, _, _, ns ++ [n], rfl, by rw [← hdr]; congr 1 <;> (rw [List.length_drop] <;> omega), by rw [← hdr]; exact HR5.out, HO6.out, HG6.out, hide (by rw [← hdr]), hide ?_, hide ?_, HB6.out⟩, ?_⟩
        · rw [hc.out, HCC.out, ← hdr, List.append_assoc]; rfl
        · have h1 := hm.out
          have h2 := HML.out
          rw [List.length_append]
          simp
          omega
        · simp only [lenS]
          omega
    · obtain rfl : r = [] := List.eq_nil_of_length_eq_zero (by omega)
      have hcf := hc.out
      rw [cutsS_nil (l := []) (by simp), List.append_nil] at hcf
      have HC := hide hcf
      clear hcf hc hd
      go_wp2
      go_ret2
      exact ⟨_, rfl, by rw [HC.out]; exact ho, hb⟩
end Go.Proofs.YtpimkigbdjfjoaaDoor
