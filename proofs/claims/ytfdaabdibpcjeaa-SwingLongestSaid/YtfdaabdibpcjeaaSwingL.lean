/- swing.parts[api.Line], Lines at this program. -/
import Derived.Test.YtfdaabdibpcjeaaRowL
set_option linter.unusedSimpArgs false
set_option linter.unusedVariables false
namespace Go.Proofs.Ytfdaabdibpcjeaa
open Go.RowKit

/-- the line through the first n bands -/
def lnOf (l : List Bd) (n : Nat) : Ln := ⟨(dk l n).v, 0, flN (dk l n), flD (dk l n)⟩
/-- the line of each part -/
def fits (l : List Bd) : List Ln := if h : 0 < l.length then lnOf l (firstN l) :: fits (l.drop (firstN l)) else []
termination_by l.length
decreasing_by
  have := firstN_pos h
  rw [List.length_drop]
  omega
theorem fits_nil {l : List Bd} (h : ¬ 0 < l.length) : fits l = [] := by rw [fits, dif_neg h]
theorem fits_cons {l : List Bd} (h : 0 < l.length) : fits l = lnOf l (firstN l) :: fits (l.drop (firstN l)) := by rw [fits, dif_pos h]

theorem okB_mk {l : List Bd} (h0 : 0 < l.length) (h1 : l.length ≤ 256) (h2 : okF (-1) l = true) : okB l = true := by
  unfold okB
  rw [decide_eq_true h0, decide_eq_true h1, h2]
  rfl

set_option maxRecDepth 100000 in
theorem swing_Lines1 (n dt dv n0 d0 n1 d1 m N D : Int)
    (c3 : ∀ g w, w.heap[g]? = some (.cells #[.int .i64 dt, .int .i64 dv, .int .i64 n0, .int .i64 d0, .int .i64 n1, .int .i64 d1, .int .i64 m] 72 (0, 0)) → Calls Try.prog 35 #[.pointer (some ⟨g, 0, none⟩)] w fun e w' => e = .returned (.agg #[.int .i64 dv, .int .i64 0, .int .i64 N, .int .i64 D]) ∧ Below w.heap.size w w') (w : World) :
    Calls Try.prog 46 #[.int .i64 n, .agg #[.int .i64 dt, .int .i64 dv, .int .i64 n0, .int .i64 d0, .int .i64 n1, .int .i64 d1, .int .i64 m]] w fun e w' => e = .returned (.agg #[.int .i64 dv, .int .i64 0, .int .i64 N, .int .i64 D]) ∧ Below w.heap.size w w' := by
  go_enter Try.func46, Try.ntmps46
  go_wp2_with fail
  refine (c3 _ _ (ka (na w #[.int .i64 dt, .int .i64 dv, .int .i64 n0, .int .i64 d0, .int .i64 n1, .int .i64 d1, .int .i64 m] 72) (.cells #[.int .i64 0, .int .i64 0, .int .i64 0, .int .i64 0] 23))).mono ?_
  rintro e w1 ⟨rfl, hb1⟩
  have f_d1 := kp hb1 (ka (na w #[.int .i64 dt, .int .i64 dv, .int .i64 n0, .int .i64 d0, .int .i64 n1, .int .i64 d1, .int .i64 m] 72) (.cells #[.int .i64 0, .int .i64 0, .int .i64 0, .int .i64 0] 23))
  have f_o1 := kp hb1 (na1 w (.cells #[.int .i64 dt, .int .i64 dv, .int .i64 n0, .int .i64 d0, .int .i64 n1, .int .i64 d1, .int .i64 m] 72) #[.int .i64 0, .int .i64 0, .int .i64 0, .int .i64 0] 23)
  have hB1 := bB (bA (bA (b0 w) (.cells #[.int .i64 dt, .int .i64 dv, .int .i64 n0, .int .i64 d0, .int .i64 n1, .int .i64 d1, .int .i64 m] 72)) (.cells #[.int .i64 0, .int .i64 0, .int .i64 0, .int .i64 0] 23)) hb1
  obtain ⟨zd_a, zd_b, ld1⟩ := rcell f_d1
  obtain ⟨zo_a, zo_b, lo1⟩ := rcell f_o1
  go_wp2_with fail
  (rw [row4 (f_o1)]; generalize hT : setRow _ _ _ = wE; obtain ⟨hbE, hgE⟩ := ret_row hB1 (by omega) (f_o1) hT; have zE := (rcell hgE).1; clear hT; refine bodyPost_ret (by simp [results, Try.results46, go_sem, zE]; try rfl) rfl ?_)
  exact ⟨rfl, hbE⟩

set_option maxRecDepth 100000 in
set_option maxHeartbeats 1000000 in
theorem parts_line_no (A : Option Addr) (c : Nat) (l : List Bd) (h : okB l = false) (fv : Value) (w : World) (hR : BR w A c l) :
    Calls Try.prog 45 #[.slice A l.length c, fv] w fun e w' => e = .returned (.tuple #[.slice none 0 0, .int .i64 180]) ∧ Below w.heap.size w w' := by
  have c1 := pmc_Check A c l
  rw [chE_no h] at c1
  go_enter Try.func45, Try.ntmps45
  go_wp2_with fail
  refine (c1 _ hR).mono ?_
  rintro e w1 ⟨rfl, hb1⟩
  have hB1 := bB (b0 w) hb1
  go_wp2
  go_ret2
  exact ⟨rfl, hB1⟩

set_option maxRecDepth 100000 in
set_option maxHeartbeats 2000000 in
theorem parts_line_yes (A : Option Addr) (c : Nat) (l : List Bd) (h : okB l = true) (w : World) (hR : BR w A c l) :
    Calls Try.prog 45 #[.slice A l.length c, .func (Fn.func 46) #[] #[]] w fun e w' => ∃ v, e = .returned (.tuple #[v, .int .i64 0]) ∧ OwnL w.heap.size w' v (fits l) ∧ Below w.heap.size w w' := by
  obtain ⟨k0, k1, k2⟩ := okB_spec h
  have c1 := pmc_Check A c l
  rw [chE_yes h] at c1
  go_enter Try.func45, Try.ntmps45
  go_wp2_with fail
  refine (c1 _ hR).mono ?_
  rintro e w1 ⟨rfl, hb1⟩
  have hB1 := bB (b0 w) hb1
  clear c1
  go_wp2_with fail
  go_loopw [0, 7] (fun v0 v7 wr => ∃ (m : Nat) (A' : Option Addr) (c' : Nat) (ns : List Ln), v0 = .slice A' (l.drop m).length c' ∧ BR w A' c' (l.drop m) ∧ OwnL w.heap.size wr v7 ns ∧ Hid (fits l = ns ++ fits (l.drop m)) ∧ Hid (ns.length ≤ m ∧ m ≤ l.length) ∧ Below w.heap.size w wr) (fun v0 _ _ => lenS v0)
  case atStart => exact ⟨0, A, c, [], rfl, hR, OwnL.nil _ _, hide rfl, hide ⟨Nat.le_refl _, Nat.zero_le _⟩, hB1⟩
  case round =>
    obtain ⟨m, A', c', ns, rfl, hR', ho, hc, hm, hb⟩ := hrel
    have hl2 : (l.drop m).length ≤ 256 := by rw [List.length_drop]; omega
    have hok2 := okF_drop l (-1) (Int.le_refl _) k2 m
    have hdd := fun k => List.drop_drop (l := l) (i := k) (j := m)
    have hml : (l.drop m).length = l.length - m := List.length_drop
    generalize l.drop m = r at *
    have HDD := hide hdd
    have HML := hide hml
    have HOK := hide hok2
    clear hdd hml hok2
    by_cases hd : 0 < r.length
    · have hn := firstN_is r
      have c2 := swing_first A' c' r HOK.out hl2 hd
      have hcc := fits_cons hd
      have hn0 := firstN_pos hd
      have hu := fun n (h : IsFirst r n) => h.uniq hn
      have hnl := hn.le
      have hop : drOpen (dk r (firstN r)) = true := by
        have := hn.yes (firstN r - 1) (by omega)
        rwa [show firstN r - 1 + 1 = firstN r by omega] at this
      have c3 := fun g w hg => door_line g (dk r (firstN r)) _ (dk_ok (okB_mk hd hl2 HOK.out) (firstN r) hn0 hnl) hop w hg
      unfold lnOf at hcc
      generalize firstN r = n at *
      have HU := hide hu
      have HCC := hide hcc
      have C2 := hide (c2 _ (hR'.below hb))
      clear hu hcc hn c2 hop
      go_wp2_with fail
      refine (unhide C2).mono ?_
      rintro e w2 ⟨n', hn', rfl, hb2⟩
      obtain rfl := HU.out n' hn'
      unfold Dr.cs at c3 ⊢
      generalize flN (dk r n') = N at *
      generalize flD (dk r n') = D at *
      generalize dk r n' = d at *
      obtain ⟨dt, dv, n0, d0, n1', d1, dm⟩ := d
      simp only at c3 HCC
      clear C2 HU hn'
      have HB2 := bB hb hb2
      have ho2 := ho.lift hb2
      clear hb2 ho hR
      go_wp2_with fail
      refine (swing_Lines1 _ _ _ _ _ _ _ _ _ _ c3 _).mono ?_
      rintro e w3 ⟨rfl, hb3⟩
      have HB3 := bB (bA HB2 _) hb3
      have ho3 := ho2.lift (bB (bA (b0 w2) _) hb3)
      clear hb3 ho2 HB2 c3
      have k1 : ns.length + 1 ≤ 4096 := by have := hm.out; omega
      have hcap := hR'.cap
      go_wp2_with (at_builtin; refine wpList_pushL rfl _ _ rfl w.heap.size _ ns ⟨dv, 0, N, D⟩ w3.heap.size 1 rfl rfl (ho3.lift (bA (b0 _) _)) (na w3 _ _) k1 (bA HB3 _).size ?_; intro v1 w5 ho5 hb5 hs5)
      have hdr := HDD.out n'
      refine ⟨⟨m + n', (if r.length = n' then A' else A'.map (fun x => x.add (n' * 3))), r.length - n', ns ++ [⟨dv, 0, N, D⟩], ?_, ?_, ho5, hide ?_, hide ?_, hb5 _ (bA HB3 _)⟩, ?_⟩
      · rw [← hdr, List.length_drop]
      · rw [← hdr]
        exact hR'.drop n' hnl (Nat.le_refl _) hcap
      · rw [hc.out, HCC.out, ← hdr, List.append_assoc]; rfl
      · have h1 := hm.out
        have h2 := HML.out
        rw [List.length_append]
        simp
        omega
      · show r.length - n' < r.length
        omega
    · obtain rfl : r = [] := List.eq_nil_of_length_eq_zero (by omega)
      have hcf := hc.out
      rw [fits_nil (l := []) (by simp), List.append_nil] at hcf
      have HC := hide hcf
      clear hcf hc hd
      go_wp2
      go_ret2
      exact ⟨_, rfl, by rw [HC.out]; exact ho, hb⟩

theorem swing_Lines_no (A : Option Addr) (c : Nat) (l : List Bd) (h : okB l = false) (w : World) (hR : BR w A c l) :
    Calls Try.prog 20 #[.slice A l.length c] w fun e w' => e = .returned (.tuple #[.slice none 0 0, .int .i64 180]) ∧ Below w.heap.size w w' := by
  have c1 := parts_line_no A c l h (.func (Fn.func 46) #[] #[])
  go_enter Try.func20, Try.ntmps20
  go_wp2_with fail
  refine (c1 _ hR).mono ?_
  rintro e w1 ⟨rfl, hb1⟩
  have hB1 := bB (b0 w) hb1
  go_wp2
  go_ret2
  exact ⟨rfl, hB1⟩

theorem swing_Lines_yes (A : Option Addr) (c : Nat) (l : List Bd) (h : okB l = true) (w : World) (hR : BR w A c l) :
    Calls Try.prog 20 #[.slice A l.length c] w fun e w' => ∃ A' c', e = .returned (.tuple #[.slice A' (fits l).length c', .int .i64 0]) ∧ LR w' A' c' (fits l) ∧ Below w.heap.size w w' := by
  have c1 := parts_line_yes A c l h
  go_enter Try.func20, Try.ntmps20
  go_wp2_with fail
  refine (c1 _ hR).mono ?_
  rintro e w1 ⟨v, rfl, ho, hb1⟩
  go_wp2
  go_ret2
  obtain ⟨A', c', rfl, hr⟩ := ho.lr
  exact ⟨A', c', rfl, hr, hb1⟩
end Go.Proofs.Ytfdaabdibpcjeaa
