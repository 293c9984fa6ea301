/- The walk of SwingLongest (yearbooklaw09). -/
import Derived.Test.YtfdaabdibpcjeaaPB
import Derived.Test.YtfdaabdibpcjeaaEqualL
import Derived.Test.YtfdaabdibpcjeaaPA
set_option linter.unusedSimpArgs false
set_option linter.unusedVariables false
namespace Go.Proofs.Ytfdaabdibpcjeaa
open Go.RowKit

theorem fits_len : ∀ (m : Nat) (l : List Bd), l.length ≤ m → (fits l).length = (cuts l).length
  | m, l, h => by
    by_cases h0 : 0 < l.length
    · have hp := firstN_pos h0
      cases m with
      | zero => omega
      | succ m =>
        rw [fits_cons h0, cuts_cons h0, List.length_cons, List.length_cons, fits_len m _ (by rw [List.length_drop]; omega)]
    · rw [fits_nil h0, cuts_nil h0]; rfl

theorem cuts_le : ∀ (m : Nat) (l : List Bd), l.length ≤ m → (cuts l).length ≤ l.length
  | m, l, h => by
    by_cases h0 : 0 < l.length
    · have hp := firstN_pos h0
      cases m with
      | zero => omega
      | succ m =>
        have := cuts_le m (l.drop (firstN l)) (by rw [List.length_drop]; omega)
        rw [List.length_drop] at this
        rw [cuts_cons h0, List.length_cons]
        omega
    · rw [cuts_nil h0]; exact Nat.zero_le _

theorem len_take {r : List Bd} {n : Nat} (hn : n ≤ r.length) : (r.take n).length = n := by rw [List.length_take]; omega
theorem thr_part {r : List Bd} (h : okB r = true) (n : Nat) (h0 : 0 < n) (hn : n ≤ r.length) (ho : drOpen (dk r n) = true) (A : Option Addr) (c : Nat) (w : World) (hR : BR w A c (r.take n)) :
    Calls Try.prog 14 #[.agg (lnOf r n).cs, .slice A n c] w fun e w' => e = .returned (.bool true) ∧ Below w.heap.size w w' := by
  have hk := okB_take h n h0 hn
  have e := dk_take r n hn
  have ht := fit_thr hk (by rw [e]; exact ho)
  rw [e] at ht
  have := swing_Through_yes (dk r n).v 0 (flN (dk r n)) (flD (dk r n)) A c (r.take n) hk true (hide ht) w hR
  rw [len_take hn] at this
  exact this
theorem shut_part {r : List Bd} (h : okB r = true) (n : Nat) (h0 : 0 < n) (hn : n ≤ r.length) (ho : drOpen (dk r n) = false) (A : Option Addr) (c : Nat) (w : World) (hR : BR w A c (r.take n)) :
    Calls Try.prog 12 #[.slice A n c] w fun e w' => e = .returned (.tuple #[.agg #[.int .i64 0, .int .i64 0, .int .i64 0, .int .i64 0], .int .i64 4]) ∧ Below w.heap.size w w' := by
  have := swing_Fit_shut A c (r.take n) (okB_take h n h0 hn) (by rw [dk_take r n hn]; exact ho) w hR
  rw [len_take hn] at this
  exact this
theorem open_part {r : List Bd} (h : okB r = true) (n : Nat) (h0 : 0 < n) (hn : n ≤ r.length) (ho : drOpen (dk r n) = true) (A : Option Addr) (c : Nat) (w : World) (hR : BR w A c (r.take n)) :
    Calls Try.prog 12 #[.slice A n c] w fun e w' => e = .returned (.tuple #[.agg (lnOf r n).cs, .int .i64 0]) ∧ Below w.heap.size w w' := by
  have := swing_Fit_yes A c (r.take n) (okB_take h n h0 hn) (by rw [dk_take r n hn]; exact ho) w hR
  rw [dk_take r n hn, len_take hn] at this
  exact this

theorem some_of (k : Int) (m : Nat) (h : 0 < m) : ∃ s : Nat, (IntKind.u64.wrap k).tmod (m : Int) = (s : Int) ∧ s < m := by
  have h0 : 0 ≤ IntKind.u64.wrap k := by
    show 0 ≤ k % _
    exact Int.emod_nonneg _ (by decide)
  have h1 := Int.tmod_nonneg (m : Int) h0
  have h2 := Int.tmod_lt_of_pos (IntKind.u64.wrap k) (show (0 : Int) < m by omega)
  exact ⟨((IntKind.u64.wrap k).tmod m).toNat, by omega, by omega⟩

set_option maxRecDepth 100000 in
set_option maxHeartbeats 2000000 in
theorem long_no (k : Int) (X : Option Addr) (C : Nat) (xs ys : List Bd) (w : World)
    (c1 : ∀ w', Below w.heap.size w w' → Calls Try.prog 11 #[.slice X xs.length C] w' fun e w'' => ∃ A c, e = .returned (.slice A ys.length c) ∧ BR w'' A c ys ∧ Below w'.heap.size w' w'')
    (c2 : ∀ A c w, BR w A c ys → Calls Try.prog 19 #[.slice A ys.length c] w fun e w' => e = .returned (.tuple #[.slice none 0 0, .int .i64 180]) ∧ Below w.heap.size w w')
    (c3 : ∀ A c w, BR w A c ys → Calls Try.prog 20 #[.slice A ys.length c] w fun e w' => e = .returned (.tuple #[.slice none 0 0, .int .i64 180]) ∧ Below w.heap.size w w') :
    Calls Try.prog 6 #[.slice X xs.length C, .int .i64 k] w fun e w' => e = .returned (.bool true) ∧ Below w.heap.size w w' := by
  have hw := wakes9
  go_enter Try.func6, Try.ntmps6
  go_wp2_with fail
  refine (hw _).mono ?_
  rintro e w1 ⟨rfl, hb1⟩
  have hB1 := bB (b0 w) hb1
  go_wp2_with fail
  refine (c1 _ hB1).mono ?_
  rintro e wo ⟨A, c, rfl, hR, hbo⟩
  have hBo := bB hB1 hbo
  clear c1 hw hbo
  go_wp2_with fail
  refine (c2 _ _ _ hR).mono ?_
  rintro e w2 ⟨rfl, hb2⟩
  have rd_b2 := hR.below hb2
  have hB2 := bB hBo hb2
  go_wp2_with fail
  refine (c3 _ _ _ rd_b2).mono ?_
  rintro e w3 ⟨rfl, hb3⟩
  have rd_b3 := rd_b2.below hb3
  have hB3 := bB hB2 hb3
  go_wp2
  go_ret
  exact ⟨rfl, hB3⟩

set_option maxRecDepth 100000 in
set_option maxHeartbeats 4000000 in
theorem long_yes (k : Int) (X : Option Addr) (C : Nat) (xs ys : List Bd) (n : Nat) (hz : Hid (ys.length = n)) (ns : List Nat) (ls : List Ln) (hok : Hid (okF (-1) ys = true ∧ ys.length ≤ 256)) (hns : Hid (cuts ys = ns)) (hls : Hid (fits ys = ls)) (hnl : Hid (ls.length = ns.length)) (h0 : 0 < ns.length) (hb0 : ns.length ≤ 256) (hn0 : n ≤ 256) (w : World)
    (c1 : ∀ w', Below w.heap.size w w' → Calls Try.prog 11 #[.slice X xs.length C] w' fun e w'' => ∃ A c, e = .returned (.slice A n c) ∧ BR w'' A c ys ∧ Below w'.heap.size w' w'')
    (c2 : ∀ A c w, BR w A c ys → Calls Try.prog 19 #[.slice A n c] w fun e w' => ∃ A' c', e = .returned (.tuple #[.slice A' ns.length c', .int .i64 0]) ∧ Rd w' A' c' ns ∧ Below w.heap.size w w')
    (c3 : ∀ A c w, BR w A c ys → Calls Try.prog 20 #[.slice A n c] w fun e w' => ∃ A' c', e = .returned (.tuple #[.slice A' ns.length c', .int .i64 0]) ∧ LR w' A' c' ls ∧ Below w.heap.size w w') :
    Calls Try.prog 6 #[.slice X xs.length C, .int .i64 k] w fun e w' => e = .returned (.bool true) ∧ Below w.heap.size w w' := by
  have hw := wakes9
  go_enter Try.func6, Try.ntmps6
  go_wp2_with fail
  refine (hw _).mono ?_
  rintro e w1 ⟨rfl, hb1⟩
  have hB1 := bB (b0 w) hb1
  go_wp2_with fail
  refine (c1 _ hB1).mono ?_
  rintro e wo ⟨A, c, rfl, hR, hbo⟩
  have hBo := bB hB1 hbo
  clear c1 hw hbo
  go_wp2_with fail
  refine (c2 _ _ _ hR).mono ?_
  rintro e w2 ⟨Ai, ci, rfl, hI2, hb2⟩
  go_wp2_with fail
  refine (c3 _ _ _ (hR.below hb2)).mono ?_
  rintro e w3 ⟨Al, cl, rfl, hL3, hb3⟩
  have hI3 := hI2.below hb3
  have hB3 := bB hBo (bB hb2 hb3)
  have hR3 := hR.below (bB hb2 hb3)
  have hcap := hR.cap
  rw [hz.out] at hcap
  obtain ⟨g, cur, rfl, hg, hc⟩ := hI3.mem h0
  obtain ⟨g', cur', rfl, hg', hc'⟩ := hL3.2.2 (by rw [hnl.out]; exact h0)
  have HN : Hid (∀ (i m : Nat), ns[i]? = some m → cur[i]? = some (.int .i64 ((m : Nat) : Int))) := hide fun i m h => by
    obtain ⟨h1, rfl⟩ := List.getElem?_eq_some_iff.1 h
    exact hc i h1
  have HL : Hid (∀ (i : Nat) (b : Ln), ls[i]? = some b → cur'[i * 4]? = some (.int .i64 b.x) ∧ cur'[i * 4 + 1]? = some (.int .i64 b.y) ∧ cur'[i * 4 + 2]? = some (.int .i64 b.n) ∧ cur'[i * 4 + 3]? = some (.int .i64 b.d)) := hide fun i b h => by
    obtain ⟨h1, rfl⟩ := List.getElem?_eq_some_iff.1 h
    exact hc' i h1
  clear c2 c3 hb2 hb3 hI2 hI3 hL3 hR hc hc'
  go_wp2_with fail
  go_loopw [10, 56] (fun v10 v56 wr => ∃ (at_ i : Nat) (r : List Bd) (ps : List Nat) (qs : List Ln), v10 = .int .i64 at_ ∧ v56 = .int .i64 i ∧ i ≤ ns.length ∧ at_ ≤ n ∧ Hid (ys.drop at_ = r) ∧ Hid (ns = ps ++ cuts r ∧ ps.length = i) ∧ Hid (ls = qs ++ fits r ∧ qs.length = i) ∧ wr.heap[g]? = some (.cells cur 3 (0, 0)) ∧ wr.heap[g']? = some (.cells cur' 23 (0, 0)) ∧ Below w3.heap.size w3 wr) (fun _ v56 _ => ns.length - (intOf v56).toNat)
  case atStart => exact ⟨0, 0, ys, [], [], rfl, rfl, by omega, by omega, hide rfl, hide ⟨hns.out.symm, rfl⟩, hide ⟨hls.out.symm, rfl⟩, hg, hg', b0 w3⟩
  case round =>
    obtain ⟨at_, i, r, ps, qs, rfl, rfl, hi, hat, hr, hc, hf, j1, j2, hb⟩ := hrel
    have hrl : r.length = n - at_ := by rw [← hr.out, List.length_drop, hz.out]
    by_cases hd : 0 < r.length
    · have hokr : okF (-1) r = true := by rw [← hr.out]; exact okF_drop ys (-1) (Int.le_refl _) hok.out.1 at_
      have okr := okB_mk hd (by omega) hokr
      have hcc := cuts_cons hd
      have hfc := fits_cons hd
      have hm0 := firstN_pos hd
      have hF := firstN_is r
      have hml := hF.le
      have hop : ∀ s, s < firstN r → drOpen (dk r (s + 1)) = true := hF.yes
      have hsh : firstN r < r.length → drOpen (dk r (firstN r + 1)) = false := hF.no
      have hopm : drOpen (dk r (firstN r)) = true := by
        have := hop (firstN r - 1) (by omega)
        rwa [show firstN r - 1 + 1 = firstN r by omega] at this
      have t1 := fun A c w hR => thr_part okr (firstN r) hm0 hml hopm A c w hR
      have t3 := fun s (hs : s < firstN r) A c w hR => open_part okr (s + 1) (by omega) (by omega) (hop s hs) A c w hR
      have t2 := fun (hs : firstN r < r.length) A c w hR => shut_part okr (firstN r + 1) (by omega) (by omega) (hsh hs) A c w hR
      have z1 : ns[i]? = some (firstN r) := by rw [hc.out.1, hcc, ← hc.out.2]; simp
      have z2 : ls[i]? = some (lnOf r (firstN r)) := by rw [hf.out.1, hfc, ← hf.out.2]; simp
      have z3 : i < ns.length := by
        have := (List.getElem?_eq_some_iff.1 z1).1
        exact this
      have y1 := HN.out i _ z1
      obtain ⟨y2, y3, y4, y5⟩ := HL.out i _ z2
      have hRr := hR3.drop at_ (by rw [hz.out]; exact hat) (by rw [hz.out]; exact hcap) (Nat.le_refl _)
      rw [hr.out] at hRr
      have hne : at_ < n := by omega
      rw [if_neg (show ¬ c = at_ by omega)] at hRr
      generalize lnOf r (firstN r) = b at *
      generalize firstN r = m at *
      obtain ⟨bx, by', bn, bd'⟩ := b
      simp only [Ln.cs] at t1 y2 y3 y4 y5
      have d1 : decide ((m : Int) < 1) = false := by simp; omega
      have d2 : decide ((n : Int) - (at_ : Int) < (m : Int)) = false := by simp; omega
      have l1 : at_ + m ≤ n := by omega
      have l2 : at_ + m ≤ c := by omega
      have HR3 := hide hRr
      have H1 := hide t1
      have H2 := hide t2
      have H3 := hide t3
      have HS := hide hsh
      have HO := hide hop
      have HCC := hide hcc
      have HFC := hide hfc
      have HRL := hide hrl
      clear hRr t1 t2 t3 hsh hop hcc hfc hrl hopm hF okr hokr z1 z2 hR3
      obtain ⟨zg_a, zg_b, lg2⟩ := rcell j1
      obtain ⟨zh_a, zh_b, lh3⟩ := rcell j2
      go_wp2_with fail
      refine Abs.wp_region_abs (Abs.cls0 _) [0, 1, 2, 3, 4, 5, 6, 7, 8, 9, 10, 11, 12, 13, 14, 15, 16, 17, 18, 19, 20, 21, 22, 23] (by kernel_rfl) (by kernel_rfl) (Below.refl _ _).drew ?_
      repeat (first | (refine Abs.step_pure rfl rfl (fun K hK => ?_); go_simp; (try go_bits); (first | refine hK _ _ ?_ | (simp only [↓IntWalk.iteOmega]; go_simp; (try go_bits); refine hK _ _ ?_)); clear hK K) | (refine Abs.step_load (v := ?_) rfl rfl (by kernel_rfl) rfl (fun w0 hI => ?_) (fun K hK => ?_); rotate_left; (· have z0 := (rcell (kp hI (j2))).1; go_simp; rfl); (simp only [Act.put, List.setIfInBounds_toArray, List.set_cons_zero, List.set_cons_succ]; refine hK _ _ ?_; clear hK K)) | (refine Abs.step_skip rfl rfl (fun K hK => ?_); (simp only [Act.put, List.setIfInBounds_toArray, List.set_cons_zero, List.set_cons_succ]; refine hK _ _ ?_; clear hK K)))
      (refine Abs.step_call_val (f := ?_) (args := ?_) (v := ?_) rfl rfl rfl rfl (fun w0 => ?_) (fun w0 hI => ?_) (fun K hK => ?_); rotate_left 3; (· go_simp; (constructor <;> rfl)); (· exact H1.out _ _ _ ((HR3.out.take _).below (bB hb hI))); (simp only [Act.put, List.setIfInBounds_toArray, List.set_cons_zero, List.set_cons_succ]; refine hK _ _ ?_; clear hK K))
      repeat (first | (refine Abs.step_pure rfl rfl (fun K hK => ?_); go_simp; (try go_bits); (first | refine hK _ _ ?_ | (simp only [↓IntWalk.iteOmega]; go_simp; (try go_bits); refine hK _ _ ?_)); clear hK K) | (refine Abs.step_load (v := ?_) rfl rfl (by kernel_rfl) rfl (fun w0 hI => ?_) (fun K hK => ?_); rotate_left; (· have z0 := (rcell (kp hI (j2))).1; go_simp; rfl); (simp only [Act.put, List.setIfInBounds_toArray, List.set_cons_zero, List.set_cons_succ]; refine hK _ _ ?_; clear hK K)) | (refine Abs.step_skip rfl rfl (fun K hK => ?_); (simp only [Act.put, List.setIfInBounds_toArray, List.set_cons_zero, List.set_cons_succ]; refine hK _ _ ?_; clear hK K)))
      intro w5 hb5 hx0 hx1 hx2
      clear hx0 hx1 hx2
      simp only [Abs.T_setF, Abs.T_addA, Abs.T_push, Abs.T_start]
      have f_g5 := kp hb5 (j1)
      have f_h5 := kp hb5 (j2)
      have hB5 := bB (bB hB3 hb) hb5
      clear zg_a zg_b zh_a zh_b
      obtain ⟨zg_a, zg_b, lg5⟩ := rcell f_g5
      obtain ⟨zh_a, zh_b, lh5⟩ := rcell f_h5
      have HW5 := bB hb hb5
      obtain ⟨s, hq, hsm⟩ := some_of k m hm0
      have hsl : s + 1 ≤ m := hsm
      have T3 : ∀ L, L = s + 1 → ∀ A c w, BR w A c (r.take (s + 1)) → Calls Try.prog 12 #[.slice A L c] w fun e w' => e = .returned (.tuple #[.agg (lnOf r (s + 1)).cs, .int .i64 0]) ∧ Below w.heap.size w w' := fun L hL => by subst hL; exact H3.out s hsm
      generalize lnOf r (s + 1) = b3 at *
      obtain ⟨b3x, b3y, b3n, b3d⟩ := b3
      simp only [Ln.cs] at T3
      by_cases hs : m < r.length
      · have l3 : (at_ : Int) + (m : Int) < (n : Int) := by have := HRL.out; omega
        have l4 : at_ + m + 1 ≤ c := by have := HRL.out; omega
        have l5 : at_ + m + 1 ≤ n := by have := HRL.out; omega
        have T2 : ∀ L, L = m + 1 → ∀ A c w, BR w A c (r.take (m + 1)) → Calls Try.prog 12 #[.slice A L c] w fun e w' => e = .returned (.tuple #[.agg #[.int .i64 0, .int .i64 0, .int .i64 0, .int .i64 0], .int .i64 4]) ∧ Below w.heap.size w w' := fun L hL => by subst hL; exact H2.out hs
        clear hs
        go_wp2_with fail
        refine (T2 _ (by omega) _ _ _ ((HR3.out.take _).below HW5)).mono ?_
        rintro e w6 ⟨rfl, hb6⟩
        have HW6 := bB HW5 hb6
        clear T2
        go_wp2_with fail
        refine (T3 _ (by omega) _ _ _ ((HR3.out.take _).below (bA HW6 _))).mono ?_
        rintro e w7 ⟨rfl, hb7⟩
        have HZ := bA (bB (bA HW6 (.cells #[.int .i64 0, .int .i64 0, .int .i64 0, .int .i64 0] 23)) hb7) (.cells #[.int .i64 b3x, .int .i64 b3y, .int .i64 b3n, .int .i64 b3d] 23)
        go_wp2
        go_roundw
        case rel => exact ⟨at_ + m, i + 1, r.drop m, ps ++ [m], qs ++ [⟨bx, by', bn, bd'⟩], by go_num, by go_num, by omega, by omega, hide (by rw [← hr.out, List.drop_drop]), hide ⟨by rw [hc.out.1, HCC.out, List.append_assoc]; rfl, by rw [List.length_append, hc.out.2]; rfl⟩, hide ⟨by rw [hf.out.1, HFC.out, List.append_assoc]; rfl, by rw [List.length_append, hf.out.2]; rfl⟩, kp HZ hg, kp HZ hg', HZ⟩
        case measure => simp [intOf]; omega
      · have l3 : ¬ (at_ : Int) + (m : Int) < (n : Int) := by have := HRL.out; omega
        clear hs
        go_wp2_with fail
        refine (T3 _ (by omega) _ _ _ ((HR3.out.take _).below HW5)).mono ?_
        rintro e w7 ⟨rfl, hb7⟩
        have HZ := bA (bB HW5 hb7) (.cells #[.int .i64 b3x, .int .i64 b3y, .int .i64 b3n, .int .i64 b3d] 23)
        go_wp2
        go_roundw
        case rel => exact ⟨at_ + m, i + 1, r.drop m, ps ++ [m], qs ++ [⟨bx, by', bn, bd'⟩], by go_num, by go_num, by omega, by omega, hide (by rw [← hr.out, List.drop_drop]), hide ⟨by rw [hc.out.1, HCC.out, List.append_assoc]; rfl, by rw [List.length_append, hc.out.2]; rfl⟩, hide ⟨by rw [hf.out.1, HFC.out, List.append_assoc]; rfl, by rw [List.length_append, hf.out.2]; rfl⟩, kp HZ hg, kp HZ hg', HZ⟩
        case measure => simp [intOf]; omega
    · have er : r = [] := List.eq_nil_of_length_eq_zero (by omega)
      have hin : i = ns.length := by
        rw [hc.out.1, er, cuts_nil (l := []) (by simp), List.append_nil]
        exact hc.out.2.symm
      have han : at_ = n := by omega
      subst hin han
      clear er hd hrl hr
      go_wp2
      go_ret
      exact ⟨by simp, bB hB3 hb⟩

theorem walk_longest (X : Option Addr) (C : Nat) (xs : List Bd) (k : Int) (hn : xs.length ≤ C) (w : World) (hX : InB w X xs) :
    Calls Try.prog 6 #[.slice X xs.length C, .int .i64 k] w fun e w' => e = .returned (.bool true) ∧ Below w.heap.size w w' := by
  have c1 := fun w' (hb : Below w.heap.size w w') => law9_own X C 260 xs rfl hn w' (hX.below hb)
  generalize xs.take 260 = ys at *
  cases h : okB ys
  · exact long_no k X C xs ys w c1 (fun A c w hR => swing_Cut_no A c ys h w hR) (fun A c w hR => swing_Lines_no A c ys h w hR)
  · obtain ⟨k0, k1, k2⟩ := okB_spec h
    have c3 := fun A c w hR => swing_Lines_yes A c ys h w hR
    have hfl := fits_len ys.length ys (Nat.le_refl _)
    rw [hfl] at c3
    exact long_yes k X C xs ys ys.length (hide rfl) (cuts ys) (fits ys) (hide ⟨k2, k1⟩) (hide rfl) (hide rfl) (hide hfl) (by rw [cuts_cons k0]; simp) (Nat.le_trans (cuts_le ys.length ys (Nat.le_refl _)) k1) k1 w c1 (fun A c w hR => swing_Cut_yes A c ys h w hR) c3
end Go.Proofs.Ytfdaabdibpcjeaa
