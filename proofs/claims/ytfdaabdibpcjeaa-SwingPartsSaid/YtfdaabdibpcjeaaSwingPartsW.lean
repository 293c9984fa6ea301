/- The walk of SwingParts (yearbooklaw09). -/
import Derived.Test.YtfdaabdibpcjeaaPB
import Derived.Test.YtfdaabdibpcjeaaEqualL
import Derived.Test.YtfdaabdibpcjeaaPA
set_option linter.unusedSimpArgs false
set_option linter.unusedVariables false
namespace Go.Proofs.Ytfdaabdibpcjeaa
open Go.RowKit

theorem fit_take {r : List Bd} (h : okB r = true) (n : Nat) (h0 : 0 < n) (hn : n ≤ r.length) (A : Option Addr) (c : Nat) (w : World) (hR : BR w A c (r.take n)) :
    Calls Try.prog 18 #[.slice A n c] w fun e w' => e = .returned (.agg (lnOf r n).cs) ∧ Below w.heap.size w w' := by
  have hl : (r.take n).length = n := by rw [List.length_take]; omega
  have hb : bd (r.take n) 0 = bd r 0 := by
    unfold bd
    simp only [List.getD_eq_getElem?_getD]
    rw [List.getElem?_take, if_pos h0]
  have hk := ref9_Fit A c (r.take n) (okB_take h n h0 hn) w hR
  rw [dk_take r n hn, hb, ← (dr_inv h n (by omega) hn).v, hl] at hk
  exact hk

set_option maxRecDepth 100000 in
set_option maxHeartbeats 2000000 in
theorem parts_no_a (X : Option Addr) (C n : Nat) (xs zs : List Bd) (hs : (n : Int) ≤ 40) (w : World)
    (c1 : ∀ w', Below w.heap.size w w' → Calls Try.prog 11 #[.slice X xs.length C] w' fun e w'' => ∃ A c, e = .returned (.slice A n c) ∧ n ≤ c ∧ BR w'' A c zs ∧ Below w'.heap.size w' w'')
    (c2 : ∀ A c w, BR w A c zs → Calls Try.prog 19 #[.slice A n c] w fun e w' => e = .returned (.tuple #[.slice none 0 0, .int .i64 180]) ∧ Below w.heap.size w w')
    (c3 : ∀ A c w, BR w A c zs → Calls Try.prog 20 #[.slice A n c] w fun e w' => e = .returned (.tuple #[.slice none 0 0, .int .i64 180]) ∧ Below w.heap.size w w')
    (c4 : ∀ A c w, BR w A c zs → Calls Try.prog 13 #[.slice A n c] w fun e w' => e = .returned (.bool false) ∧ Below w.heap.size w w') :
    Calls Try.prog 5 #[.slice X xs.length C] w fun e w' => e = .returned (.bool true) ∧ Below w.heap.size w w' := by
  have hw := wakes9
  go_enter Try.func5, Try.ntmps5
  go_wp2_with fail
  refine (hw _).mono ?_
  rintro e w1 ⟨rfl, hb1⟩
  have hB1 := bB (b0 w) hb1
  go_wp2_with fail
  refine (c1 _ hB1).mono ?_
  rintro e wo ⟨A, c, rfl, hnc, hR, hbo⟩
  have hBo := bB hB1 hbo
  clear c1 hw hbo
  go_wp2_with fail
  refine (c2 _ _ _ hR).mono ?_
  rintro e w2 ⟨rfl, hb2⟩
  have rd_b2 := hR.below hb2
  have hB2 := bB hBo hb2
  go_wp2_with fail
  refine (c3 _ _ _ rd_b2).mono ?_
  rintro e w3 ⟨rfl, hb3⟩
  have rd_b3 := rd_b2.below hb3
  have hB3 := bB hB2 hb3
  go_wp2_with fail
  refine (c4 _ _ _ rd_b3).mono ?_
  rintro e w4 ⟨rfl, hb4⟩
  have rd_b4 := rd_b3.below hb4
  have hB4 := bB hB3 hb4
  go_wp2
  go_ret
  exact ⟨rfl, hB4⟩

set_option maxRecDepth 100000 in
set_option maxHeartbeats 4000000 in
theorem parts_yes_a (X : Option Addr) (C n : Nat) (xs zs : List Bd) (hs : (n : Int) ≤ 40) (ns : List Nat) (ls : List Ln) (hok : Hid (okF (-1) zs = true ∧ zs.length ≤ 40)) (hns : Hid (cuts zs = ns)) (hls : Hid (fits zs = ls)) (hzl : Hid (zs.length = n)) (w : World)
    (c1 : ∀ w', Below w.heap.size w w' → Calls Try.prog 11 #[.slice X xs.length C] w' fun e w'' => ∃ A c, e = .returned (.slice A n c) ∧ n ≤ c ∧ BR w'' A c zs ∧ Below w'.heap.size w' w'')
    (c2 : ∀ A c w, BR w A c zs → Calls Try.prog 19 #[.slice A n c] w fun e w' => ∃ A' c', e = .returned (.tuple #[.slice A' ns.length c', .int .i64 0]) ∧ Rd w' A' c' ns ∧ Below w.heap.size w w')
    (c3 : ∀ A c w, BR w A c zs → Calls Try.prog 20 #[.slice A n c] w fun e w' => ∃ A' c', e = .returned (.tuple #[.slice A' ls.length c', .int .i64 0]) ∧ LR w' A' c' ls ∧ Below w.heap.size w w')
    (c4 : ∀ A c w, BR w A c zs → Calls Try.prog 13 #[.slice A n c] w fun e w' => e = .returned (.bool true) ∧ Below w.heap.size w w') :
    Calls Try.prog 5 #[.slice X xs.length C] w fun e w' => e = .returned (.bool true) ∧ Below w.heap.size w w' := by
  have hw := wakes9
  go_enter Try.func5, Try.ntmps5
  go_wp2_with fail
  refine (hw _).mono ?_
  rintro e w1 ⟨rfl, hb1⟩
  have hB1 := bB (b0 w) hb1
  go_wp2_with fail
  refine (c1 _ hB1).mono ?_
  rintro e wo ⟨A, c, rfl, hnc, hR, hbo⟩
  have hBo := bB hB1 hbo
  clear c1 hw hbo
  go_wp2_with fail
  refine (c2 _ _ _ hR).mono ?_
  rintro e w2 ⟨Ai, ci, rfl, hI2, hb2⟩
  go_wp2_with fail
  refine (c3 _ _ _ (hR.below hb2)).mono ?_
  rintro e w3 ⟨Al, cl, rfl, hL3, hb3⟩
  have hb23 := bB hb2 hb3
  have hI3 := hI2.below hb3
  go_wp2_with fail
  refine (c4 _ _ _ (hR.below hb23)).mono ?_
  rintro e w4 ⟨rfl, hb4⟩
  have hb24 := bB hb23 hb4
  have hI4 := hI3.below hb4
  have hL4 := hL3.below hb4
  have hR4 := hR.below hb24
  have hB4 := bB hBo hb24
  clear c2 c3 c4 hb2 hb3 hb4 hb23 hb24 hI2 hI3 hL3
  go_wp2_with fail
  go_loopw [8, 9, 10] (fun v8 v9 v10 wr => ∃ (r : List Bd) (A' : Option Addr) (c' : Nat) (ks : List Nat) (js : List Ln), v10 = .slice A' r.length c' ∧ BR w4 A' c' r ∧ Own w4.heap.size wr v8 ks ∧ OwnL w4.heap.size wr v9 js ∧ Hid (ns = ks ++ cuts r) ∧ Hid (ls = js ++ fits r) ∧ Hid (okF (-1) r = true ∧ ks.length + r.length ≤ 40 ∧ js.length + r.length ≤ 40) ∧ Below w4.heap.size w4 wr) (fun _ _ v10 _ => lenS v10)
  case atStart => exact ⟨zs, A, c, [], [], by rw [hzl.out], hR4, Own.nil _ _, OwnL.nil _ _, hide hns.out.symm, hide hls.out.symm, hide ⟨hok.out.1, by simpa using hok.out.2, by simpa using hok.out.2⟩, b0 w4⟩
  case round =>
    obtain ⟨r, A', c', ks, js, rfl, hR', ho, hj, hc, hf, hm, hb⟩ := hrel
    have hl2 : r.length ≤ 256 := by have := hm.out; omega
    by_cases hd : 0 < r.length
    · have okr := okB_mk hd hl2 hm.out.1
      have hF := ref9_First A' c' r okr
      have hn0 := firstN_pos hd
      have hnl := (firstN_is r).le
      have hcc := cuts_cons hd
      have hfc := fits_cons hd
      have c5 := fit_take okr (firstN r) hn0 hnl A' c'
      generalize lnOf r (firstN r) = b at *
      generalize firstN r = k at *
      obtain ⟨bx, by', bn, bd'⟩ := b
      simp only [Ln.cs] at c5
      have HCC := hide hcc
      have HFC := hide hfc
      have hcap := hR'.cap
      clear hcc hfc okr hR hR4
      go_wp2_with fail
      refine (hF _ (hR'.below hb)).mono ?_
      rintro e w5 ⟨rfl, hb5⟩
      have HB5 := bB hb hb5
      have ho5 := ho.lift hb5
      have hj5 := hj.lift hb5
      have k1 : ks.length + [k].length ≤ 4096 := by have := hm.out; simp; omega
      have k2 : js.length + 1 ≤ 4096 := by have := hm.out; omega
      clear hb5 ho hj hF
      go_wp2_with (at_builtin; refine wpList_push2 rfl _ _ rfl w4.heap.size _ _ ks [k] js _ _ rfl rfl (ho5.lift (bA (b0 _) _)) (hj5.lift (bA (b0 _) _)) (Rd.oneI _ _ _ rfl) k1 (bA HB5 _).size ?_; intro v6 w6 ho6 hj6 hb6 hs6)
      have HB6 := hb6 _ (bA HB5 _)
      clear ho5 hj5 hb6 hs6
      refine (c5 _ ((hR'.take k).below HB6)).mono ?_
      rintro e w7 ⟨rfl, hb7⟩
      have HB7 := bB HB6 hb7
      have ho7 := ho6.lift hb7
      have hj7 := hj6.lift hb7
      clear ho6 hj6 hb7 c5
      go_wp2_with (at_builtin; refine wpList_pushL2 rfl _ _ rfl w4.heap.size _ _ js (ks ++ [k]) ⟨bx, by', bn, bd'⟩ w7.heap.size 1 rfl rfl (hj7.lift (bA (b0 _) _)) (ho7.lift (bA (b0 _) _)) (na w7 _ _) k2 (bA HB7 _).size ?_; intro v8 w8 hj8 ho8 hb8 hs8)
      refine ⟨⟨r.drop k, (if c' = k then A' else A'.map (fun x => x.add (k * 3))), c' - k, ks ++ [k], js ++ [⟨bx, by', bn, bd'⟩], ?_, hR'.drop k hnl hcap (Nat.le_refl _), ho8, hj8, hide ?_, hide ?_, hide ?_, hb8 _ (bA HB7 _)⟩, ?_⟩
      · rw [List.length_drop]
      · rw [hc.out, HCC.out, List.append_assoc]; rfl
      · rw [hf.out, HFC.out, List.append_assoc]; rfl
      · have h1 := hm.out
        refine ⟨okF_drop r (-1) (Int.le_refl _) h1.1 k, ?_, ?_⟩
        · rw [List.length_append, List.length_drop]; simp; omega
        · rw [List.length_append, List.length_drop]; simp; omega
      · show r.length - k < r.length
        omega
    · obtain rfl : r = [] := List.eq_nil_of_length_eq_zero (by omega)
      have e1 := hc.out
      rw [cuts_nil (l := []) (by simp), List.append_nil] at e1
      have e2 := hf.out
      rw [fits_nil (l := []) (by simp), List.append_nil] at e2
      subst e1 e2
      have hm1 : ns.length ≤ 100000 := by have := hm.out; simp at this; omega
      have hm2 : ls.length ≤ 100000 := by have := hm.out; simp at this; omega
      obtain ⟨A8, c8, rfl, h8⟩ := ho.rd
      obtain ⟨A9, c9, rfl, h9⟩ := hj.lr
      have q1 := fun w => equal_int Ai A8 ci c8 ns ns hm1 w
      have q2 := fun w => equal_lines Al A9 cl c9 ls hm2 w
      have hdec : decide (ns = ns) = true := by simp
      rw [hdec] at q1
      have HBX := bB hB4 hb
      clear hm1 hm2 hdec hd hl2 hc hf hm hns hls
      go_wp2_with fail
      refine (q1 _ (hI4.below hb) h8).mono ?_
      rintro e wx ⟨rfl, hbx⟩
      go_wp2_with fail
      refine (q2 _ ((hL4.below hb).below hbx) (h9.below hbx)).mono ?_
      rintro e wy ⟨rfl, hby⟩
      go_wp2
      go_ret
      exact ⟨rfl, bB HBX (bB hbx hby)⟩

set_option maxRecDepth 100000 in
set_option maxHeartbeats 2000000 in
theorem parts_no_b (X : Option Addr) (C n : Nat) (xs zs : List Bd) (hs : 40 < n) (w : World)
    (c1 : ∀ w', Below w.heap.size w w' → Calls Try.prog 11 #[.slice X xs.length C] w' fun e w'' => ∃ A c, e = .returned (.slice A n c) ∧ n ≤ c ∧ BR w'' A c zs ∧ Below w'.heap.size w' w'')
    (c2 : ∀ A c w, BR w A c zs → Calls Try.prog 19 #[.slice A 40 c] w fun e w' => e = .returned (.tuple #[.slice none 0 0, .int .i64 180]) ∧ Below w.heap.size w w')
    (c3 : ∀ A c w, BR w A c zs → Calls Try.prog 20 #[.slice A 40 c] w fun e w' => e = .returned (.tuple #[.slice none 0 0, .int .i64 180]) ∧ Below w.heap.size w w')
    (c4 : ∀ A c w, BR w A c zs → Calls Try.prog 13 #[.slice A 40 c] w fun e w' => e = .returned (.bool false) ∧ Below w.heap.size w w') :
    Calls Try.prog 5 #[.slice X xs.length C] w fun e w' => e = .returned (.bool true) ∧ Below w.heap.size w w' := by
  have hw := wakes9
  go_enter Try.func5, Try.ntmps5
  go_wp2_with fail
  refine (hw _).mono ?_
  rintro e w1 ⟨rfl, hb1⟩
  have hB1 := bB (b0 w) hb1
  go_wp2_with fail
  refine (c1 _ hB1).mono ?_
  rintro e wo ⟨A, c, rfl, hnc, hR, hbo⟩
  have hBo := bB hB1 hbo
  clear c1 hw hbo
  go_wp2_with fail
  refine (c2 _ _ _ hR).mono ?_
  rintro e w2 ⟨rfl, hb2⟩
  have rd_b2 := hR.below hb2
  have hB2 := bB hBo hb2
  go_wp2_with fail
  refine (c3 _ _ _ rd_b2).mono ?_
  rintro e w3 ⟨rfl, hb3⟩
  have rd_b3 := rd_b2.below hb3
  have hB3 := bB hB2 hb3
  go_wp2_with fail
  refine (c4 _ _ _ rd_b3).mono ?_
  rintro e w4 ⟨rfl, hb4⟩
  have rd_b4 := rd_b3.below hb4
  have hB4 := bB hB3 hb4
  go_wp2
  go_ret
  exact ⟨rfl, hB4⟩

set_option maxRecDepth 100000 in
set_option maxHeartbeats 4000000 in
theorem parts_yes_b (X : Option Addr) (C n : Nat) (xs zs : List Bd) (hs : 40 < n) (ns : List Nat) (ls : List Ln) (hok : Hid (okF (-1) zs = true ∧ zs.length ≤ 40)) (hns : Hid (cuts zs = ns)) (hls : Hid (fits zs = ls)) (hzl : Hid (zs.length = 40)) (w : World)
    (c1 : ∀ w', Below w.heap.size w w' → Calls Try.prog 11 #[.slice X xs.length C] w' fun e w'' => ∃ A c, e = .returned (.slice A n c) ∧ n ≤ c ∧ BR w'' A c zs ∧ Below w'.heap.size w' w'')
    (c2 : ∀ A c w, BR w A c zs → Calls Try.prog 19 #[.slice A 40 c] w fun e w' => ∃ A' c', e = .returned (.tuple #[.slice A' ns.length c', .int .i64 0]) ∧ Rd w' A' c' ns ∧ Below w.heap.size w w')
    (c3 : ∀ A c w, BR w A c zs → Calls Try.prog 20 #[.slice A 40 c] w fun e w' => ∃ A' c', e = .returned (.tuple #[.slice A' ls.length c', .int .i64 0]) ∧ LR w' A' c' ls ∧ Below w.heap.size w w')
    (c4 : ∀ A c w, BR w A c zs → Calls Try.prog 13 #[.slice A 40 c] w fun e w' => e = .returned (.bool true) ∧ Below w.heap.size w w') :
    Calls Try.prog 5 #[.slice X xs.length C] w fun e w' => e = .returned (.bool true) ∧ Below w.heap.size w w' := by
  have hw := wakes9
  go_enter Try.func5, Try.ntmps5
  go_wp2_with fail
  refine (hw _).mono ?_
  rintro e w1 ⟨rfl, hb1⟩
  have hB1 := bB (b0 w) hb1
  go_wp2_with fail
  refine (c1 _ hB1).mono ?_
  rintro e wo ⟨A, c, rfl, hnc, hR, hbo⟩
  have hBo := bB hB1 hbo
  clear c1 hw hbo
  go_wp2_with fail
  refine (c2 _ _ _ hR).mono ?_
  rintro e w2 ⟨Ai, ci, rfl, hI2, hb2⟩
  go_wp2_with fail
  refine (c3 _ _ _ (hR.below hb2)).mono ?_
  rintro e w3 ⟨Al, cl, rfl, hL3, hb3⟩
  have hb23 := bB hb2 hb3
  have hI3 := hI2.below hb3
  go_wp2_with fail
  refine (c4 _ _ _ (hR.below hb23)).mono ?_
  rintro e w4 ⟨rfl, hb4⟩
  have hb24 := bB hb23 hb4
  have hI4 := hI3.below hb4
  have hL4 := hL3.below hb4
  have hR4 := hR.below hb24
  have hB4 := bB hBo hb24
  clear c2 c3 c4 hb2 hb3 hb4 hb23 hb24 hI2 hI3 hL3
  go_wp2_with fail
  go_loopw [8, 9, 10] (fun v8 v9 v10 wr => ∃ (r : List Bd) (A' : Option Addr) (c' : Nat) (ks : List Nat) (js : List Ln), v10 = .slice A' r.length c' ∧ BR w4 A' c' r ∧ Own w4.heap.size wr v8 ks ∧ OwnL w4.heap.size wr v9 js ∧ Hid (ns = ks ++ cuts r) ∧ Hid (ls = js ++ fits r) ∧ Hid (okF (-1) r = true ∧ ks.length + r.length ≤ 40 ∧ js.length + r.length ≤ 40) ∧ Below w4.heap.size w4 wr) (fun _ _ v10 _ => lenS v10)
  case atStart => exact ⟨zs, A, c, [], [], by rw [hzl.out], hR4, Own.nil _ _, OwnL.nil _ _, hide hns.out.symm, hide hls.out.symm, hide ⟨hok.out.1, by simpa using hok.out.2, by simpa using hok.out.2⟩, b0 w4⟩
  case round =>
    obtain ⟨r, A', c', ks, js, rfl, hR', ho, hj, hc, hf, hm, hb⟩ := hrel
    have hl2 : r.length ≤ 256 := by have := hm.out; omega
    by_cases hd : 0 < r.length
    · have okr := okB_mk hd hl2 hm.out.1
      have hF := ref9_First A' c' r okr
      have hn0 := firstN_pos hd
      have hnl := (firstN_is r).le
      have hcc := cuts_cons hd
      have hfc := fits_cons hd
      have c5 := fit_take okr (firstN r) hn0 hnl A' c'
      generalize lnOf r (firstN r) = b at *
      generalize firstN r = k at *
      obtain ⟨bx, by', bn, bd'⟩ := b
      simp only [Ln.cs] at c5
      have HCC := hide hcc
      have HFC := hide hfc
      have hcap := hR'.cap
      clear hcc hfc okr hR hR4
      go_wp2_with fail
      refine (hF _ (hR'.below hb)).mono ?_
      rintro e w5 ⟨rfl, hb5⟩
      have HB5 := bB hb hb5
      have ho5 := ho.lift hb5
      have hj5 := hj.lift hb5
      have k1 : ks.length + [k].length ≤ 4096 := by have := hm.out; simp; omega
      have k2 : js.length + 1 ≤ 4096 := by have := hm.out; omega
      clear hb5 ho hj hF
      go_wp2_with (at_builtin; refine wpList_push2 rfl _ _ rfl w4.heap.size _ _ ks [k] js _ _ rfl rfl (ho5.lift (bA (b0 _) _)) (hj5.lift (bA (b0 _) _)) (Rd.oneI _ _ _ rfl) k1 (bA HB5 _).size ?_; intro v6 w6 ho6 hj6 hb6 hs6)
      have HB6 := hb6 _ (bA HB5 _)
      clear ho5 hj5 hb6 hs6
      refine (c5 _ ((hR'.take k).below HB6)).mono ?_
      rintro e w7 ⟨rfl, hb7⟩
      have HB7 := bB HB6 hb7
      have ho7 := ho6.lift hb7
      have hj7 := hj6.lift hb7
      clear ho6 hj6 hb7 c5
      go_wp2_with (at_builtin; refine wpList_pushL2 rfl _ _ rfl w4.heap.size _ _ js (ks ++ [k]) ⟨bx, by', bn, bd'⟩ w7.heap.size 1 rfl rfl (hj7.lift (bA (b0 _) _)) (ho7.lift (bA (b0 _) _)) (na w7 _ _) k2 (bA HB7 _).size ?_; intro v8 w8 hj8 ho8 hb8 hs8)
      refine ⟨⟨r.drop k, (if c' = k then A' else A'.map (fun x => x.add (k * 3))), c' - k, ks ++ [k], js ++ [⟨bx, by', bn, bd'⟩], ?_, hR'.drop k hnl hcap (Nat.le_refl _), ho8, hj8, hide ?_, hide ?_, hide ?_, hb8 _ (bA HB7 _)⟩, ?_⟩
      · rw [List.length_drop]
      · rw [hc.out, HCC.out, List.append_assoc]; rfl
      · rw [hf.out, HFC.out, List.append_assoc]; rfl
      · have h1 := hm.out
        refine ⟨okF_drop r (-1) (Int.le_refl _) h1.1 k, ?_, ?_⟩
        · rw [List.length_append, List.length_drop]; simp; omega
        · rw [List.length_append, List.length_drop]; simp; omega
      · show r.length - k < r.length
        omega
    · obtain rfl : r = [] := List.eq_nil_of_length_eq_zero (by omega)
      have e1 := hc.out
      rw [cuts_nil (l := []) (by simp), List.append_nil] at e1
      have e2 := hf.out
      rw [fits_nil (l := []) (by simp), List.append_nil] at e2
      subst e1 e2
      have hm1 : ns.length ≤ 100000 := by have := hm.out; simp at this; omega
      have hm2 : ls.length ≤ 100000 := by have := hm.out; simp at this; omega
      obtain ⟨A8, c8, rfl, h8⟩ := ho.rd
      obtain ⟨A9, c9, rfl, h9⟩ := hj.lr
      have q1 := fun w => equal_int Ai A8 ci c8 ns ns hm1 w
      have q2 := fun w => equal_lines Al A9 cl c9 ls hm2 w
      have hdec : decide (ns = ns) = true := by simp
      rw [hdec] at q1
      have HBX := bB hB4 hb
      clear hm1 hm2 hdec hd hl2 hc hf hm hns hls
      go_wp2_with fail
      refine (q1 _ (hI4.below hb) h8).mono ?_
      rintro e wx ⟨rfl, hbx⟩
      go_wp2_with fail
      refine (q2 _ ((hL4.below hb).below hbx) (h9.below hbx)).mono ?_
      rintro e wy ⟨rfl, hby⟩
      go_wp2
      go_ret
      exact ⟨rfl, bB HBX (bB hbx hby)⟩

theorem walk_parts (X : Option Addr) (C : Nat) (xs : List Bd) (hn : xs.length ≤ C) (w : World) (hX : InB w X xs) :
    Calls Try.prog 5 #[.slice X xs.length C] w fun e w' => e = .returned (.bool true) ∧ Below w.heap.size w w' := by
  have c1 := fun w' (hb : Below w.heap.size w w') => law9_own X C 260 xs rfl hn w' (hX.below hb)
  generalize xs.take 260 = ys at *
  have c1z : ∀ w', Below w.heap.size w w' → Calls Try.prog 11 #[.slice X xs.length C] w' fun e w'' => ∃ A c, e = .returned (.slice A ys.length c) ∧ ys.length ≤ c ∧ BR w'' A c (ys.take 40) ∧ Below w'.heap.size w' w'' := fun w' hb => (c1 w' hb).mono fun e w'' ⟨A, c, he, hr, hbb⟩ => ⟨A, c, he, hr.cap, hr.take 40, hbb⟩
  have hl : (ys.take 40).length = min 40 ys.length := List.length_take
  generalize ys.take 40 = zs at *
  have c4 := fun A c w hR => ref8_Right A c zs w hR
  by_cases hs : ys.length ≤ 40
  · have e : zs.length = ys.length := by omega
    cases h : okB zs
    · rw [h, e] at c4
      have c2 := fun A c w hR => swing_Cut_no A c zs h w hR
      have c3 := fun A c w hR => swing_Lines_no A c zs h w hR
      rw [e] at c2 c3
      exact parts_no_a X C ys.length xs zs (by omega) w c1z c2 c3 c4
    · rw [h, e] at c4
      have c2 := fun A c w hR => swing_Cut_yes A c zs h w hR
      have c3 := fun A c w hR => swing_Lines_yes A c zs h w hR
      rw [e] at c2 c3
      obtain ⟨k0, k1, k2⟩ := okB_spec h
      exact parts_yes_a X C ys.length xs zs (by omega) (cuts zs) (fits zs) (hide ⟨k2, by omega⟩) (hide rfl) (hide rfl) (hide e) w c1z c2 c3 c4
  · have e : zs.length = 40 := by omega
    cases h : okB zs
    · rw [h, e] at c4
      have c2 := fun A c w hR => swing_Cut_no A c zs h w hR
      have c3 := fun A c w hR => swing_Lines_no A c zs h w hR
      rw [e] at c2 c3
      exact parts_no_b X C ys.length xs zs (by omega) w c1z c2 c3 c4
    · rw [h, e] at c4
      have c2 := fun A c w hR => swing_Cut_yes A c zs h w hR
      have c3 := fun A c w hR => swing_Lines_yes A c zs h w hR
      rw [e] at c2 c3
      obtain ⟨k0, k1, k2⟩ := okB_spec h
      exact parts_yes_b X C ys.length xs zs (by omega) (cuts zs) (fits zs) (hide ⟨k2, by omega⟩) (hide rfl) (hide rfl) (hide e) w c1z c2 c3 c4
end Go.Proofs.Ytfdaabdibpcjeaa
