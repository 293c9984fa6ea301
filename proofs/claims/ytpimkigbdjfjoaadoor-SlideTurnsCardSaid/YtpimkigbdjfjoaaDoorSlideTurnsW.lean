/- The walk of SlideTurns (yearbooklaw10). -/
import Derived.Test.YtpimkigbdjfjoaaDoorSlideD
import Derived.Test.YtpimkigbdjfjoaaDoorLawC1
set_option linter.unusedSimpArgs false
set_option linter.unusedVariables false
namespace Go.Proofs.YtpimkigbdjfjoaaDoor
open Go.RowKit
variable {ta : TypeId}
attribute [local go_sem] Oper.semAt_some

theorem rowi1S {w : World} {g i : Nat} {cur : Array Value} {t : TypeId} {f : Nat × Nat} (h : w.heap[g]? = some (.cells cur t f)) (v : Value) : w.setCell ⟨g, i, none⟩ v = setRow w g (cur.setIfInBounds i v) := setRow_of_setCell h v rfl
theorem OwnB.br2S {B : Nat} {w : World} {v : Value} {l : List Bd} (h : OwnB B w v l) : ∃ A c, v = .slice A l.length c ∧ BR w A c l ∧ ∀ g o, A = some ⟨g, o, none⟩ → B ≤ g := by
  obtain ⟨A, c, rfl, hr⟩ := h.br
  refine ⟨A, c, rfl, hr, fun g o e => ?_⟩
  subst e
  exact h.lt g rfl

set_option maxRecDepth 100000 in
theorem clone_bands2 (X : Option Addr) (C : Nat) (ys : List Bd) (hn : ys.length ≤ C) (h4 : ys.length ≤ 4096) (w : World) (hT : InB w X ys) :
    Calls Tryd.prog 32 #[.slice X ys.length C] w fun e w' => ∃ A c, e = .returned (.slice A ys.length c) ∧ BR w' A c ys ∧ (∀ g o, A = some ⟨g, o, none⟩ → w.heap.size ≤ g) ∧ Below w.heap.size w w' := by
  have hq := eql_nilB
  rcases X with _ | ad
  · obtain rfl : ys = [] := by
      by_cases h0 : 0 < ys.length
      · obtain ⟨ad, e, _⟩ := hT h0
        cases e
      · exact List.eq_nil_of_length_eq_zero (by omega)
    go_enter Tryd.func32, Tryd.ntmps32
    go_wp2
    go_ret
    exact ⟨none, 0, rfl, BR.nil _ _ _ (by decide), (by intro _ _ e; cases e), b0 w⟩
  · have hlen : ([] : List Bd).length + ys.length ≤ 4096 := by simp; omega
    go_enter Tryd.func32, Tryd.ntmps32
    go_wp2_with (at_builtin; refine wpList_pushB rfl _ _ rfl w.heap.size _ [] ys (some ad) C rfl rfl (OwnB.fresh w) (hT.below (bA (b0 w) _)) hlen (by simp) ?_; intro v1 w1 ho1 hb1 hs1)
    go_ret
    rw [List.nil_append] at ho1
    obtain ⟨A, c, rfl, hr⟩ := ho1.br2S
    exact ⟨A, c, rfl, hr.1, hr.2, hb1 _ (bA (b0 w) _)⟩

set_option maxRecDepth 100000 in
set_option maxHeartbeats 2000000 in
theorem strn_1 (X : Option Addr) (C : Nat) (xs ys : List Bd) (bv : Int) (w : World) (hall : w.heap[0]? = some (.cells all4 ta (0, 0)))
    (c1 : ∀ w', Below w.heap.size w w' → Calls Tryd.prog 12 #[.slice X xs.length C, .int .i64 80] w' fun e w'' => ∃ A c, e = .returned (.slice A ys.length c) ∧ BR w'' A c ys ∧ Below w'.heap.size w' w'')
    (c2 : ∀ A c w, BR w A c ys → Calls Tryd.prog 27 #[.slice A ys.length c] w fun e w' => e = .returned (.int .i64 180) ∧ Below w.heap.size w w') :
    Calls Tryd.prog 8 #[.slice X xs.length C, .int .i64 bv] w fun e w' => e = .returned (.bool true) ∧ Below w.heap.size w w' := by
  have hw := fun w (ha : w.heap[0]? = some (.cells all4 ta (0, 0))) => wakesA w ha
  go_enter Tryd.func8, Tryd.ntmps8
  obtain ⟨zz_a, zz_b, lz0⟩ := rcell hall
  go_wp2_with fail
  refine (hw _ (hall)).mono ?_
  rintro e w1 ⟨rfl, hb1⟩
  have f_z1 := kp hb1 (hall)
  have hB1 := bB (b0 w) hb1
  clear zz_a zz_b
  obtain ⟨zz_a, zz_b, lz1⟩ := rcell f_z1
  go_wp2_with fail
  refine (c1 _ hB1).mono ?_
  rintro e wo ⟨A, c, rfl, hR, hbo⟩
  have hBo := bB hB1 hbo
  clear hbo
  go_wp2_with fail
  refine (c2 _ _ _ hR).mono ?_
  rintro e w2 ⟨rfl, hb2⟩
  have rd_l2 := hR.below hb2
  have hB2 := bB hBo hb2
  go_wp2
  go_ret
  exact ⟨rfl, hB2⟩

set_option maxRecDepth 100000 in
set_option maxHeartbeats 4000000 in
theorem strn_2 (X : Option Addr) (C : Nat) (xs ys : List Bd) (h : Hid (okF (-1) ys = true)) (k0 : 0 < ys.length) (k1 : ys.length ≤ 256) (bv m : Int) (b0v : -9223372036854775808 ≤ bv ∧ bv < 9223372036854775808) (hm : (if bv < 0 then 0 else bv) % (281474976710656 - (bd ys (ys.length - 1)).t + 1) = m) (nk : Nat) (ns : List Nat) (hk : Hid (ns.length = nk ∧ ns.length ≤ 100000)) (x0 x1 x2 x3 y0 y1 y2 y3 E : Int)
    (rx : (-9223372036854775808 < x0 ∧ x0 < 9223372036854775808) ∧ (-9223372036854775808 < x2 ∧ x2 < 9223372036854775808)) (w : World) (hall : w.heap[0]? = some (.cells all4 ta (0, 0)))
    (c1 : ∀ w', Below w.heap.size w w' → Calls Tryd.prog 12 #[.slice X xs.length C, .int .i64 80] w' fun e w'' => ∃ A c, e = .returned (.slice A ys.length c) ∧ BR w'' A c ys ∧ Below w'.heap.size w' w'')
    (c2 : ∀ A c w, BR w A c ys → Calls Tryd.prog 27 #[.slice A ys.length c] w fun e w' => e = .returned (.int .i64 0) ∧ Below w.heap.size w w')
    (c3 : ∀ A c w, w.heap[0]? = some (.cells all4 ta (0, 0)) → BR w A c ys → Calls Tryd.prog 23 #[.slice A ys.length c] w fun e w' => ∃ A' c', e = .returned (.tuple #[.slice A' nk c', .int .i64 0]) ∧ Below w.heap.size w w' ∧ Rd w' A' c' ns)
    (c4 : ∀ A c w, w.heap[0]? = some (.cells all4 ta (0, 0)) → BR w A c (ys.map dnB) → Calls Tryd.prog 23 #[.slice A ys.length c] w fun e w' => ∃ A' c', e = .returned (.tuple #[.slice A' nk c', .int .i64 0]) ∧ Below w.heap.size w w' ∧ Rd w' A' c' ns)
    (c5 : ∀ A c w, w.heap[0]? = some (.cells all4 ta (0, 0)) → BR w A c ys → Calls Tryd.prog 14 #[.slice A ys.length c] w fun e w' => e = .returned (.tuple #[.agg #[.int .i64 y0, .int .i64 y1, .int .i64 y2, .int .i64 y3], .int .i64 E]) ∧ Below w.heap.size w w')
    (c6 : ∀ A c w, w.heap[0]? = some (.cells all4 ta (0, 0)) → BR w A c (ys.map (laB m)) → Calls Tryd.prog 14 #[.slice A ys.length c] w fun e w' => e = .returned (.tuple #[.agg #[.int .i64 y0, .int .i64 y1, .int .i64 y2, .int .i64 y3], .int .i64 E]) ∧ Below w.heap.size w w')
    (c7 : ∀ A c w, w.heap[0]? = some (.cells all4 ta (0, 0)) → BR w A c ys → Calls Tryd.prog 13 #[.slice A ys.length c] w fun e w' => e = .returned (.tuple #[.agg #[.int .i64 x0, .int .i64 x1], .agg #[.int .i64 x2, .int .i64 x3], .int .i64 E]) ∧ Below w.heap.size w w')
    (c8 : ∀ A c w, w.heap[0]? = some (.cells all4 ta (0, 0)) → BR w A c (ys.map dnB) → Calls Tryd.prog 13 #[.slice A ys.length c] w fun e w' => e = .returned (.tuple #[.agg #[.int .i64 (-x2), .int .i64 x3], .agg #[.int .i64 (-x0), .int .i64 x1], .int .i64 E]) ∧ Below w.heap.size w w') :
    Calls Tryd.prog 8 #[.slice X xs.length C, .int .i64 bv] w fun e w' => e = .returned (.bool true) ∧ Below w.heap.size w w' := by
  have hw := fun w (ha : w.heap[0]? = some (.cells all4 ta (0, 0))) => wakesA w ha
  have ce : ∀ A B c d w, Rd w A c ns → Rd w B d ns → Calls Tryd.prog 25 #[.slice A nk c, .slice B nk d] w fun e w' => e = .returned (.bool true) ∧ Below w.heap.size w w' := fun A B c d w h h' => by
    have := equal_int A B c d ns ns hk.out.2 w h h'
    rw [hk.out.1] at this
    simpa using this
  have rT := bd_rg h.out (ys.length - 1) (by omega)
  have HG := hide (fun k (hk : k < ys.length) => bd_rg h.out k hk)
  have hTl : Hid (∀ k, k < ys.length → (bd ys k).t ≤ (bd ys (ys.length - 1)).t) := hide (fun k hk => by
    by_cases e : k = ys.length - 1
    · subst e; exact Int.le_refl _
    · exact Int.le_of_lt (t_lt h.out k (ys.length - 1) (by omega) (by omega)))
  obtain ⟨rT1, rT2, -⟩ := rT
  generalize hT : (bd ys (ys.length - 1)).t = T at *
  have m0 : 0 ≤ m ∧ m ≤ 281474976710656 - T := by
    have p2 := Int.emod_nonneg (if bv < 0 then 0 else bv) (show 281474976710656 - T + 1 ≠ 0 by omega)
    have p3 := Int.emod_lt_of_pos (if bv < 0 then 0 else bv) (show 0 < 281474976710656 - T + 1 by omega)
    rw [hm] at p2 p3
    omega
  generalize hmx : (if bv < 0 then 0 else bv) = mx at *
  have rmx : 0 ≤ mx ∧ mx < 9223372036854775808 := by rw [← hmx]; split <;> omega
  go_enter Tryd.func8, Tryd.ntmps8
  obtain ⟨zz_a, zz_b, lz0⟩ := rcell hall
  go_wp2_with fail
  refine (hw _ (hall)).mono ?_
  rintro e w1 ⟨rfl, hb1⟩
  have f_z1 := kp hb1 (hall)
  have hB1 := bB (b0 w) hb1
  clear zz_a zz_b
  obtain ⟨zz_a, zz_b, lz1⟩ := rcell f_z1
  go_wp2_with fail
  refine (c1 _ hB1).mono ?_
  rintro e wo ⟨A, c, rfl, hR, hbo⟩
  have hBo := bB hB1 hbo
  have f_zo := kp hbo f_z1
  have hAl : ∀ g o, A = some ⟨g, o, none⟩ → g < wo.heap.size := fun g o e => by
    obtain ⟨g', o', cur', e', hg', _⟩ := hR.mem k0
    rw [e] at e'
    cases e'
    exact (rcell hg').2.2
  have hz0 := (rcell f_zo).2.2
  clear hbo c1 hw
  obtain ⟨zz_a, zz_b, lz2⟩ := rcell f_zo
  go_wp2_with fail
  refine (c2 _ _ _ hR).mono ?_
  rintro e w3 ⟨rfl, hb3⟩
  have f_z3 := kp hb3 (f_zo)
  have rd_l3 := hR.below hb3
  have hB3 := bB hBo hb3
  clear zz_a zz_b
  obtain ⟨zz_a, zz_b, lz3⟩ := rcell f_z3
  have RL := hide rd_l3
  go_wp2_with fail
  refine (clone_bands2 _ _ ys RL.out.cap (by omega) _ RL.out.inB).mono ?_
  rintro e wp ⟨A1, C1, rfl, hR1, hn1, hbp⟩
  have hBp := bB hB3 hbp
  have f_zp := kp hbp (f_z3)
  have RL1 := hide (RL.out.below hbp)
  have hsz := hB3.size
  have hsz3 := hb3.size
  have hszp := hbp.size
  clear hbp RL
  obtain ⟨zz_a, zz_b, lz4⟩ := rcell f_zp
  go_wp2_with fail
  refine (clone_bands2 _ _ ys RL1.out.cap (by omega) _ RL1.out.inB).mono ?_
  rintro e wq ⟨A2, C2, rfl, hR2, hn2, hbq⟩
  have hBq := bB hBp hbq
  have f_zq := kp hbq (f_zp)
  have RLq := hide (RL1.out.below hbq)
  obtain ⟨g1, o1, cur1, rfl, hg1, hc1⟩ := (hR1.below hbq).mem k0
  obtain ⟨g2, o2, cur2, rfl, hg2, hc2⟩ := hR2.mem k0
  have hcap1 := hide (And.intro hR1.cap hR1.top)
  have hcap2 := hide (And.intro hR2.cap hR2.top)
  have hn1 := hn1 g1 o1 rfl
  have hn2 := hn2 g2 o2 rfl
  obtain ⟨g1p, -⟩ : g1 < wp.heap.size ∧ True := by
    obtain ⟨g', o', cur', e, hg', _⟩ := hR1.mem k0
    cases e
    exact ⟨(rcell hg').2.2, trivial⟩
  have hBC1 : BCs cur1 o1 (mpK dnB ys 0) := by
    rw [mpK_zero]
    intro i hi
    have := hc1 i hi
    rw [bd_eq hi] at this
    exact this
  have hBC2 : BCs cur2 o2 (mpK (laB m) ys 0) := by
    rw [mpK_zero]
    intro i hi
    have := hc2 i hi
    rw [bd_eq hi] at this
    exact this
  have HB1 := hide hBC1
  have HB2 := hide hBC2
  clear hBC1 hBC2 hc1 hc2
  obtain ⟨gl, ol, curl, rfl, hgl, hcl⟩ := RLq.out.mem k0
  have hcl' : ∀ i, i < ys.length → curl[ol + i * 3]? = some (.int .i64 (bd ys i).t) ∧ curl[ol + i * 3 + 1]? = some (.int .i64 (bd ys i).lo) ∧ curl[ol + i * 3 + 2]? = some (.int .i64 (bd ys i).hi) := fun i hi => by
    have := hcl i hi
    rw [bd_eq hi] at this
    exact this
  have HC := hide hcl'
  have hlast := (hcl' (ys.length - 1) (by omega)).1
  rw [hT] at hlast
  have hcapl := RLq.out.cap
  have hAl := hAl gl ol rfl
  clear hcl hcl' hbq hR1 hR2
  obtain ⟨zz_a, zz_b, lz5⟩ := rcell f_zq
  obtain ⟨zl_a, zl_b, ll6⟩ := rcell hgl
  obtain ⟨zd_a, zd_b, ld7⟩ := rcell hg1
  obtain ⟨zt_a, zt_b, lt8⟩ := rcell hg2
  go_wp2_with fail
  rw [hm]
  go_loopw [49] (fun vi wr => ∃ (k : Nat) (cu1 cu2 : Array Value), vi = .int .i64 k ∧ k ≤ ys.length ∧ (wr.heap[g1]? = some (.cells cu1 37 (0, 0)) ∧ Hid (BCs cu1 o1 (mpK dnB ys k)) ∧ wr.heap[g2]? = some (.cells cu2 37 (0, 0)) ∧ Hid (BCs cu2 o2 (mpK (laB m) ys k)) ∧ wr.heap[gl]? = some (.cells curl 37 (0, 0)) ∧ wr.heap[0]? = some (.cells all4 ta (0, 0)) ∧ Below w.heap.size w wr)) (fun vi _ => ys.length - (intOf vi).toNat)
  case atStart => exact ⟨0, cur1, cur2, rfl, by omega, hg1, HB1, hg2, HB2, hgl, f_zq, hBq⟩
  case round =>
    obtain ⟨k, cu1, cu2, rfl, hk, j1, i1, j2, i2, jl, jz, hb⟩ := hrel
    by_cases hlt : k < ys.length
    · obtain ⟨q1, q2, q3⟩ := HC.out k hlt
      obtain ⟨r1, r2, -, ⟨r3, r4⟩, r5, r6⟩ := HG.out k hlt
      have rt := hTl.out k hlt
      have N1 := hide (i1.out.dn hlt)
      have N2 := hide (i2.out.la hlt)
      obtain ⟨u1, -, -⟩ := i2.out k (by rw [mpK_len]; exact hlt)
      obtain ⟨-, v2, v3⟩ := i1.out k (by rw [mpK_len]; exact hlt)
      rw [mpK_bd hlt, if_neg (by omega)] at u1 v2 v3
      have hcp : k < c := by omega
      have hcp1 : k < C1 := by have := hcap1.out.1; omega
      have hcp2 : k < C2 := by have := hcap2.out.1; omega
      generalize bd ys k = b at *
      obtain ⟨bt, bl, bh⟩ := b
      simp only at q1 q2 q3 r1 r2 r3 r4 r5 r6 rt N1 N2 u1 v2 v3
      obtain ⟨zl_a, zl_b, ll9⟩ := rcell jl
      obtain ⟨zz_a, zz_b, lz10⟩ := rcell jz
      obtain ⟨zd_a, zd_b, ld11⟩ := rcell j1
      obtain ⟨zt_a, zt_b, lt12⟩ := rcell j2
      go_wp2_with fail
      obtain ⟨zl_a, zl_b, ll1⟩ := rcell jl
      obtain ⟨zz_a, zz_b, lz2⟩ := rcell jz
      obtain ⟨zd_a, zd_b, ld3⟩ := rcell j1
      obtain ⟨zt_a, zt_b, lt4⟩ := rcell j2
      have f_l5 := (ka (jl) (.cells #[.int .i64 bt, .int .i64 bl, .int .i64 bh] 37))
      have f_z5 := (ka (jz) (.cells #[.int .i64 bt, .int .i64 bl, .int .i64 bh] 37))
      have f_d5 := (ka (j1) (.cells #[.int .i64 bt, .int .i64 bl, .int .i64 bh] 37))
      have f_t5 := (ka (j2) (.cells #[.int .i64 bt, .int .i64 bl, .int .i64 bh] 37))
      have f_b5 := (na wr #[.int .i64 bt, .int .i64 bl, .int .i64 bh] 37)
      have hB5 := (bA hb (.cells #[.int .i64 bt, .int .i64 bl, .int .i64 bh] 37))
      clear zd_a zd_b zl_a zl_b zt_a zt_b zz_a zz_b
      have ll5 := (rcell f_l5).2.2
      have lz5 := (rcell f_z5).2.2
      have ld5 := (rcell f_d5).2.2
      have lt5 := (rcell f_t5).2.2
      have lb5 := (rcell f_b5).2.2
      refine Abs.wp_region_abs (Abs.cls _ (fun k => k = g1)) [0, 1, 2, 3, 4, 5, 6, 7, 8, 9, 10, 11, 12, 13, 14, 15] (by kernel_rfl) (by kernel_rfl) (Below.refl _ _).drew ?_
      repeat (first | (refine Abs.step_pure rfl rfl (fun K hK => ?_); go_simp; (try go_bits); (first | refine hK _ _ ?_ | (simp only [↓IntWalk.iteOmega]; go_simp; (try go_bits); refine hK _ _ ?_)); clear hK K) | (refine Abs.step_late (v := ?_) rfl rfl (fun w0 hI => ?_) (fun K hK => ?_); rotate_left; (· have z0 := (rcell (kj hI (f_b5) (by omega))).1; go_simp; rfl); (simp only [Act.put, List.setIfInBounds_toArray, List.set_cons_zero, List.set_cons_succ]; refine hK _ _ ?_; clear hK K)) | (refine Abs.step_skip rfl rfl (fun K hK => ?_); (simp only [Act.put, List.setIfInBounds_toArray, List.set_cons_zero, List.set_cons_succ]; refine hK _ _ ?_; clear hK K)))
      (refine Abs.step_store (T := ?_) rfl rfl rfl (fun w0 hI hF hU => ?_) (fun w0 hI hU hJ => ?_) (fun K hK => ?_); rotate_left; (· have hR := kp hI (f_d5); have hg0 := (rcell hR).1; have hg1 := (rcell hR).2.1; simp only [Abs.T_setF, Abs.T_addA, Abs.T_push, Abs.T_start]; go_simp; exact rowi1S hR _); (· exact js hJ rfl _); (simp only [Act.put, List.setIfInBounds_toArray, List.set_cons_zero, List.set_cons_succ]; refine hK _ _ ?_; clear hK K))
      repeat (first | (refine Abs.step_pure rfl rfl (fun K hK => ?_); go_simp; (try go_bits); (first | refine hK _ _ ?_ | (simp only [↓IntWalk.iteOmega]; go_simp; (try go_bits); refine hK _ _ ?_)); clear hK K) | (refine Abs.step_late (v := ?_) rfl rfl (fun w0 hI => ?_) (fun K hK => ?_); rotate_left; (· have z0 := (rcell (kj hI (f_b5) (by omega))).1; go_simp; rfl); (simp only [Act.put, List.setIfInBounds_toArray, List.set_cons_zero, List.set_cons_succ]; refine hK _ _ ?_; clear hK K)) | (refine Abs.step_skip rfl rfl (fun K hK => ?_); (simp only [Act.put, List.setIfInBounds_toArray, List.set_cons_zero, List.set_cons_succ]; refine hK _ _ ?_; clear hK K)))
      (refine Abs.step_store (T := ?_) rfl rfl rfl (fun w0 hI hF hU => ?_) (fun w0 hI hU hJ => ?_) (fun K hK => ?_); rotate_left; (· have hR := fun cs => setRow_same (cs' := cs) (kp hI (f_d5)); have hg0 := fun cs => (rcell (hR cs)).1; have hg1 := fun cs => (rcell (hR cs)).2.1; simp only [Abs.T_setF, Abs.T_addA, Abs.T_push, Abs.T_start]; go_simp; exact rowi1S (hR _) _); (· exact js hJ rfl _); (simp only [Act.put, List.setIfInBounds_toArray, List.set_cons_zero, List.set_cons_succ]; refine hK _ _ ?_; clear hK K))
      intro w0 hI hF hx1 hx2
      clear hx1 hx2 hF
      simp only [Abs.T_push, setRow_setRow]
      generalize hT5 : setRow w0 _ _ = w5
      obtain ⟨hx5, hg5⟩ := fin_x hI (f_d5) hT5
      have f_l5 := kx hx5 (f_l5) (by omega)
      have f_z5 := kx hx5 (f_z5) (by omega)
      have f_t5 := kx hx5 (f_t5) (by omega)
      have hB5 := bX hB5 hx5 (by omega)
      clear hT5 hI
      obtain ⟨zl_a, zl_b, ll6⟩ := rcell f_l5
      obtain ⟨zz_a, zz_b, lz7⟩ := rcell f_z5
      obtain ⟨zd_a, zd_b, ld8⟩ := rcell hg5
      obtain ⟨zt_a, zt_b, lt9⟩ := rcell f_t5
      go_wp2_with fail
      rw [rowi1S f_t5]
      generalize hT10 : setRow _ _ _ = w10
      obtain ⟨hx10, f_t10⟩ := fin_x (b0 _) f_t5 hT10
      clear hT10
      have f_l10 := kx hx10 (f_l5) (by omega)
      have f_z10 := kx hx10 (f_z5) (by omega)
      have f_d10 := kx hx10 (hg5) (by omega)
      have hB10 := bX hB5 hx10 (by omega)
      clear zd_a zd_b zl_a zl_b zt_a zt_b zz_a zz_b
      obtain ⟨zl_a, zl_b, ll10⟩ := rcell f_l10
      obtain ⟨zz_a, zz_b, lz10⟩ := rcell f_z10
      obtain ⟨zd_a, zd_b, ld10⟩ := rcell f_d10
      obtain ⟨zt_a, zt_b, lt10⟩ := rcell f_t10
      go_roundw
      case rel => exact ⟨k + 1, _, _, by go_num, by omega, (f_d10), N1, (f_t10), N2, (f_l10), (f_z10), hB10⟩
      case measure => simp [intOf]; omega
    · obtain rfl : k = ys.length := by omega
      have hRd : Hid (BR wr (some ⟨g1, o1, none⟩) C1 (ys.map dnB)) := hide ⟨by rw [List.length_map]; exact hcap1.out.1, hcap1.out.2, fun _ => ⟨g1, o1, cu1, rfl, j1, fun i hi => by
        rw [bd_eq hi, ← mpK_all]
        exact i1.out i (by rw [mpK_len]; simpa using hi)⟩⟩
      have hRt : Hid (BR wr (some ⟨g2, o2, none⟩) C2 (ys.map (laB m))) := hide ⟨by rw [List.length_map]; exact hcap2.out.1, hcap2.out.2, fun _ => ⟨g2, o2, cu2, rfl, j2, fun i hi => by
        rw [bd_eq hi, ← mpK_all]
        exact i2.out i (by rw [mpK_len]; simpa using hi)⟩⟩
      have hRl : Hid (BR wr (some ⟨gl, ol, none⟩) c ys) := hide ⟨hcapl, RLq.out.top, fun _ => ⟨gl, ol, curl, rfl, jl, fun i hi => by
        rw [bd_eq hi]
        exact HC.out i hi⟩⟩
      clear i1 i2 j1 j2 RLq RL1
      obtain ⟨zz_a, zz_b, lz11⟩ := rcell jz
      go_wp2_with fail
      refine (c3 _ _ _ (jz) hRl.out).mono ?_
      rintro e w12 ⟨A4, k4, rfl, hb12, rn_p⟩
      have f_z12 := kp hb12 (jz)
      have rd_l12 := hRl.out.below hb12
      have rd_d12 := hRd.out.below hb12
      have rd_t12 := hRt.out.below hb12
      have hB12 := bB hb hb12
      clear zz_a zz_b
      obtain ⟨zz_a, zz_b, lz12⟩ := rcell f_z12
      go_wp2_with fail
      refine (c4 _ _ _ (f_z12) rd_d12).mono ?_
      rintro e w13 ⟨A5, k5, rfl, hb13, rn_q⟩
      have f_z13 := kp hb13 (f_z12)
      have rd_l13 := rd_l12.below hb13
      have rd_d13 := rd_d12.below hb13
      have rd_t13 := rd_t12.below hb13
      have rd_p13 := rn_p.below hb13
      have hB13 := bB hB12 hb13
      clear zz_a zz_b
      obtain ⟨zz_a, zz_b, lz13⟩ := rcell f_z13
      go_wp2_with fail
      refine (c5 _ _ _ (f_z13) rd_l13).mono ?_
      rintro e w14 ⟨rfl, hb14⟩
      have f_z14 := kp hb14 (f_z13)
      have rd_l14 := rd_l13.below hb14
      have rd_d14 := rd_d13.below hb14
      have rd_t14 := rd_t13.below hb14
      have rd_p14 := rd_p13.below hb14
      have rd_q14 := rn_q.below hb14
      have hB14 := bB hB13 hb14
      clear zz_a zz_b
      obtain ⟨zz_a, zz_b, lz14⟩ := rcell f_z14
      go_wp2_with fail
      refine (c6 _ _ _ (ka (f_z14) (.cells #[.int .i64 y0, .int .i64 y1, .int .i64 y2, .int .i64 y3] 31)) (rd_t14.below (bA (b0 _) (.cells #[.int .i64 y0, .int .i64 y1, .int .i64 y2, .int .i64 y3] 31)))).mono ?_
      rintro e w15 ⟨rfl, hb15⟩
      have f_z15 := kp hb15 (ka (f_z14) (.cells #[.int .i64 y0, .int .i64 y1, .int .i64 y2, .int .i64 y3] 31))
      have f_y15 := kp hb15 (na w14 #[.int .i64 y0, .int .i64 y1, .int .i64 y2, .int .i64 y3] 31)
      have rd_l15 := (rd_l14.below (bA (b0 _) (.cells #[.int .i64 y0, .int .i64 y1, .int .i64 y2, .int .i64 y3] 31))).below hb15
      have rd_d15 := (rd_d14.below (bA (b0 _) (.cells #[.int .i64 y0, .int .i64 y1, .int .i64 y2, .int .i64 y3] 31))).below hb15
      have rd_t15 := (rd_t14.below (bA (b0 _) (.cells #[.int .i64 y0, .int .i64 y1, .int .i64 y2, .int .i64 y3] 31))).below hb15
      have rd_p15 := (rd_p14.below (bA (b0 _) (.cells #[.int .i64 y0, .int .i64 y1, .int .i64 y2, .int .i64 y3] 31))).below hb15
      have rd_q15 := (rd_q14.below (bA (b0 _) (.cells #[.int .i64 y0, .int .i64 y1, .int .i64 y2, .int .i64 y3] 31))).below hb15
      have hB15 := bB (bA hB14 (.cells #[.int .i64 y0, .int .i64 y1, .int .i64 y2, .int .i64 y3] 31)) hb15
      clear zz_a zz_b
      obtain ⟨zz_a, zz_b, lz15⟩ := rcell f_z15
      obtain ⟨zy_a, zy_b, ly15⟩ := rcell f_y15
      go_wp2_with fail
      refine (c7 _ _ _ (ka (f_z15) (.cells #[.int .i64 y0, .int .i64 y1, .int .i64 y2, .int .i64 y3] 31)) (rd_l15.below (bA (b0 _) (.cells #[.int .i64 y0, .int .i64 y1, .int .i64 y2, .int .i64 y3] 31)))).mono ?_
      rintro e w16 ⟨rfl, hb16⟩
      have f_z16 := kp hb16 (ka (f_z15) (.cells #[.int .i64 y0, .int .i64 y1, .int .i64 y2, .int .i64 y3] 31))
      have f_y16 := kp hb16 (ka (f_y15) (.cells #[.int .i64 y0, .int .i64 y1, .int .i64 y2, .int .i64 y3] 31))
      have f_u16 := kp hb16 (na w15 #[.int .i64 y0, .int .i64 y1, .int .i64 y2, .int .i64 y3] 31)
      have rd_l16 := (rd_l15.below (bA (b0 _) (.cells #[.int .i64 y0, .int .i64 y1, .int .i64 y2, .int .i64 y3] 31))).below hb16
      have rd_d16 := (rd_d15.below (bA (b0 _) (.cells #[.int .i64 y0, .int .i64 y1, .int .i64 y2, .int .i64 y3] 31))).below hb16
      have rd_t16 := (rd_t15.below (bA (b0 _) (.cells #[.int .i64 y0, .int .i64 y1, .int .i64 y2, .int .i64 y3] 31))).below hb16
      have rd_p16 := (rd_p15.below (bA (b0 _) (.cells #[.int .i64 y0, .int .i64 y1, .int .i64 y2, .int .i64 y3] 31))).below hb16
      have rd_q16 := (rd_q15.below (bA (b0 _) (.cells #[.int .i64 y0, .int .i64 y1, .int .i64 y2, .int .i64 y3] 31))).below hb16
      have hB16 := bB (bA hB15 (.cells #[.int .i64 y0, .int .i64 y1, .int .i64 y2, .int .i64 y3] 31)) hb16
      clear zy_a zy_b zz_a zz_b
      obtain ⟨zz_a, zz_b, lz16⟩ := rcell f_z16
      obtain ⟨zy_a, zy_b, ly16⟩ := rcell f_y16
      obtain ⟨zu_a, zu_b, lu16⟩ := rcell f_u16
      go_wp2_with fail
      refine (c8 _ _ _ (ka (ka (f_z16) (.cells #[.int .i64 x0, .int .i64 x1] 26)) (.cells #[.int .i64 x2, .int .i64 x3] 26)) (rd_d16.below (bA (bA (b0 _) (.cells #[.int .i64 x0, .int .i64 x1] 26)) (.cells #[.int .i64 x2, .int .i64 x3] 26)))).mono ?_
      rintro e w17 ⟨rfl, hb17⟩
      have f_z17 := kp hb17 (ka (ka (f_z16) (.cells #[.int .i64 x0, .int .i64 x1] 26)) (.cells #[.int .i64 x2, .int .i64 x3] 26))
      have f_y17 := kp hb17 (ka (ka (f_y16) (.cells #[.int .i64 x0, .int .i64 x1] 26)) (.cells #[.int .i64 x2, .int .i64 x3] 26))
      have f_u17 := kp hb17 (ka (ka (f_u16) (.cells #[.int .i64 x0, .int .i64 x1] 26)) (.cells #[.int .i64 x2, .int .i64 x3] 26))
      have f_a17 := kp hb17 (ka (na w16 #[.int .i64 x0, .int .i64 x1] 26) (.cells #[.int .i64 x2, .int .i64 x3] 26))
      have f_b17 := kp hb17 (na1 w16 (.cells #[.int .i64 x0, .int .i64 x1] 26) #[.int .i64 x2, .int .i64 x3] 26)
      have rd_l17 := (rd_l16.below (bA (bA (b0 _) (.cells #[.int .i64 x0, .int .i64 x1] 26)) (.cells #[.int .i64 x2, .int .i64 x3] 26))).below hb17
      have rd_d17 := (rd_d16.below (bA (bA (b0 _) (.cells #[.int .i64 x0, .int .i64 x1] 26)) (.cells #[.int .i64 x2, .int .i64 x3] 26))).below hb17
      have rd_t17 := (rd_t16.below (bA (bA (b0 _) (.cells #[.int .i64 x0, .int .i64 x1] 26)) (.cells #[.int .i64 x2, .int .i64 x3] 26))).below hb17
      have rd_p17 := (rd_p16.below (bA (bA (b0 _) (.cells #[.int .i64 x0, .int .i64 x1] 26)) (.cells #[.int .i64 x2, .int .i64 x3] 26))).below hb17
      have rd_q17 := (rd_q16.below (bA (bA (b0 _) (.cells #[.int .i64 x0, .int .i64 x1] 26)) (.cells #[.int .i64 x2, .int .i64 x3] 26))).below hb17
      have hB17 := bB (bA (bA hB16 (.cells #[.int .i64 x0, .int .i64 x1] 26)) (.cells #[.int .i64 x2, .int .i64 x3] 26)) hb17
      clear zu_a zu_b zy_a zy_b zz_a zz_b
      obtain ⟨zz_a, zz_b, lz17⟩ := rcell f_z17
      obtain ⟨zy_a, zy_b, ly17⟩ := rcell f_y17
      obtain ⟨zu_a, zu_b, lu17⟩ := rcell f_u17
      obtain ⟨za_a, za_b, la17⟩ := rcell f_a17
      obtain ⟨zb_a, zb_b, lb17⟩ := rcell f_b17
      go_wp2_with fail
      refine (ce _ _ _ _ _ (rd_p17.below (bA (bA (b0 _) (.cells #[.int .i64 (-x2), .int .i64 x3] 26)) (.cells #[.int .i64 (-x0), .int .i64 x1] 26))) (rd_q17.below (bA (bA (b0 _) (.cells #[.int .i64 (-x2), .int .i64 x3] 26)) (.cells #[.int .i64 (-x0), .int .i64 x1] 26)))).mono ?_
      rintro e w18 ⟨rfl, hb18⟩
      have f_z18 := kp hb18 (ka (ka (f_z17) (.cells #[.int .i64 (-x2), .int .i64 x3] 26)) (.cells #[.int .i64 (-x0), .int .i64 x1] 26))
      have f_y18 := kp hb18 (ka (ka (f_y17) (.cells #[.int .i64 (-x2), .int .i64 x3] 26)) (.cells #[.int .i64 (-x0), .int .i64 x1] 26))
      have f_u18 := kp hb18 (ka (ka (f_u17) (.cells #[.int .i64 (-x2), .int .i64 x3] 26)) (.cells #[.int .i64 (-x0), .int .i64 x1] 26))
      have f_a18 := kp hb18 (ka (ka (f_a17) (.cells #[.int .i64 (-x2), .int .i64 x3] 26)) (.cells #[.int .i64 (-x0), .int .i64 x1] 26))
      have f_b18 := kp hb18 (ka (ka (f_b17) (.cells #[.int .i64 (-x2), .int .i64 x3] 26)) (.cells #[.int .i64 (-x0), .int .i64 x1] 26))
      have f_c18 := kp hb18 (ka (na w17 #[.int .i64 (-x2), .int .i64 x3] 26) (.cells #[.int .i64 (-x0), .int .i64 x1] 26))
      have f_e18 := kp hb18 (na1 w17 (.cells #[.int .i64 (-x2), .int .i64 x3] 26) #[.int .i64 (-x0), .int .i64 x1] 26)
      have rd_l18 := (rd_l17.below (bA (bA (b0 _) (.cells #[.int .i64 (-x2), .int .i64 x3] 26)) (.cells #[.int .i64 (-x0), .int .i64 x1] 26))).below hb18
      have rd_d18 := (rd_d17.below (bA (bA (b0 _) (.cells #[.int .i64 (-x2), .int .i64 x3] 26)) (.cells #[.int .i64 (-x0), .int .i64 x1] 26))).below hb18
      have rd_t18 := (rd_t17.below (bA (bA (b0 _) (.cells #[.int .i64 (-x2), .int .i64 x3] 26)) (.cells #[.int .i64 (-x0), .int .i64 x1] 26))).below hb18
      have rd_p18 := (rd_p17.below (bA (bA (b0 _) (.cells #[.int .i64 (-x2), .int .i64 x3] 26)) (.cells #[.int .i64 (-x0), .int .i64 x1] 26))).below hb18
      have rd_q18 := (rd_q17.below (bA (bA (b0 _) (.cells #[.int .i64 (-x2), .int .i64 x3] 26)) (.cells #[.int .i64 (-x0), .int .i64 x1] 26))).below hb18
      have hB18 := bB (bA (bA hB17 (.cells #[.int .i64 (-x2), .int .i64 x3] 26)) (.cells #[.int .i64 (-x0), .int .i64 x1] 26)) hb18
      clear za_a za_b zb_a zb_b zu_a zu_b zy_a zy_b zz_a zz_b
      obtain ⟨zz_a, zz_b, lz18⟩ := rcell f_z18
      obtain ⟨zy_a, zy_b, ly18⟩ := rcell f_y18
      obtain ⟨zu_a, zu_b, lu18⟩ := rcell f_u18
      obtain ⟨za_a, za_b, la18⟩ := rcell f_a18
      obtain ⟨zb_a, zb_b, lb18⟩ := rcell f_b18
      obtain ⟨zc_a, zc_b, lc18⟩ := rcell f_c18
      obtain ⟨ze_a, ze_b, le18⟩ := rcell f_e18
      go_wp2
      go_ret
      exact ⟨by simp, hB18⟩

theorem cutsS_lenT (l : List Bd) : (cutsS l).length ≤ l.length := by
  by_cases h0 : 0 < l.length
  · have := firstS_pos h0
    have ih := cutsS_lenT (l.drop (firstS l))
    rw [cutsS_cons h0, List.length_cons]
    rw [List.length_drop] at ih
    have := (firstS_is l).le
    omega
  · rw [cutsS_nil h0]; simp
termination_by l.length
decreasing_by
  rw [List.length_drop]
  omega

theorem slide_turns (X : Option Addr) (C : Nat) (xs : List Bd) (hn : xs.length ≤ C) (bv : Int) (b0v : -9223372036854775808 ≤ bv ∧ bv < 9223372036854775808) (w : World) (hall : w.heap[0]? = some (.cells all4 ta (0, 0))) (hX : InB w X xs) :
    Calls Tryd.prog 8 #[.slice X xs.length C, .int .i64 bv] w fun e w' => e = .returned (.bool true) ∧ Below w.heap.size w w' := by
  have c1 := fun w' (hb : Below w.heap.size w w') => law10_few X C 80 xs (by decide) hn w' (hX.below hb)
  have h1 : (xs.take 80).length ≤ 80 := by rw [List.length_take]; omega
  generalize xs.take 80 = ys at *
  have c2 := fun A c w hR => pmc_Check A c ys w hR
  cases h : okB ys
  · rw [chE_no h] at c2
    exact strn_1 X C xs ys bv w hall c1 c2
  · rw [chE_yes h] at c2
    obtain ⟨k0, k1, k2⟩ := okB_spec h
    have hl := cutsS_lenT ys
    have rT := bd_rg k2 (ys.length - 1) (by omega)
    generalize hm : (if bv < 0 then 0 else bv) % (281474976710656 - (bd ys (ys.length - 1)).t + 1) = m
    have p2 := Int.emod_nonneg (if bv < 0 then 0 else bv) (show 281474976710656 - (bd ys (ys.length - 1)).t + 1 ≠ 0 by omega)
    have p3 := Int.emod_lt_of_pos (if bv < 0 then 0 else bv) (show 0 < 281474976710656 - (bd ys (ys.length - 1)).t + 1 by omega)
    rw [hm] at p2 p3
    have hd := ok_dn h
    have ha := ok_la (x := m) h p2 (by omega)
    have cA := fun A c w ha hR => (slide_Cut_yes (ta := ta) A c ys h w ha hR).mono (by
        rintro e w' ⟨A', c', he, hr, hb⟩
        exact (⟨A', c', he, hb, hr⟩ : ∃ A' c', e = .returned (.tuple #[.slice A' (cutsS ys).length c', .int .i64 0]) ∧ Below w.heap.size w w' ∧ Rd w' A' c' (cutsS ys)))
    have cB := fun A c w ha hR => (slide_Cut_yes (ta := ta) A c (ys.map dnB) hd w ha hR).mono (by
        rintro e w' ⟨A', c', he, hr, hb⟩
        rw [cutsS_dn] at he hr
        exact (⟨A', c', he, hb, hr⟩ : ∃ A' c', e = .returned (.tuple #[.slice A' (cutsS ys).length c', .int .i64 0]) ∧ Below w.heap.size w w' ∧ Rd w' A' c' (cutsS ys)))
    rw [List.length_map] at cB
    have hv := sk_inv k2 ys.length (Nat.le_refl _)
    have g1 := slB_spec (low_low hv.v1).1
    have g2 := slB_spec (low_low hv.v2).1
    cases ho : slOpen (sk ys ys.length)
    · have hod : slOpen (sk (ys.map dnB) (ys.map dnB).length) = false := by rw [List.length_map, sk_dn ys _ (Nat.le_refl _), ngs_open]; exact ho
      have hoa : slOpen (sk (ys.map (laB m)) (ys.map (laB m)).length) = false := by rw [List.length_map, sk_la m ys _ (Nat.le_refl _)]; exact ho
      have cF := fun A c w h2 hR => slide_Fit_shut (ta := ta) A c _ ha hoa w h2 hR
      have cS := fun A c w h2 hR => slide_Slopes_shut (ta := ta) A c _ hd hod w h2 hR
      rw [List.length_map] at cF cS
      exact strn_2 X C xs ys (hide k2) k0 k1 bv m b0v hm _ (cutsS ys) (hide ⟨rfl, by omega⟩) 0 0 0 0 0 0 0 0 181 (by omega) w hall c1 c2 cA cB (fun A c w h2 hR => slide_Fit_shut A c ys h ho w h2 hR) cF (fun A c w h2 hR => slide_Slopes_shut A c ys h ho w h2 hR) cS
    · have hod : slOpen (sk (ys.map dnB) (ys.map dnB).length) = true := by rw [List.length_map, sk_dn ys _ (Nat.le_refl _), ngs_open]; exact ho
      have hoa : slOpen (sk (ys.map (laB m)) (ys.map (laB m)).length) = true := by rw [List.length_map, sk_la m ys _ (Nat.le_refl _)]; exact ho
      have cF := fun A c w h2 hR => slide_Fit_yes (ta := ta) A c _ ha hoa w h2 hR
      have cS := fun A c w h2 hR => slide_Slopes_yes (ta := ta) A c _ hd hod w h2 hR
      rw [fC_la, fS_la, List.length_map] at cF
      rw [List.length_map, sk_dn ys _ (Nat.le_refl _)] at cS
      simp only [ngs, ng, (lwN_ng _ _).1, (lwN_ng _ _).2] at cS
      exact strn_2 X C xs ys (hide k2) k0 k1 bv m b0v hm _ (cutsS ys) (hide ⟨rfl, by omega⟩) _ _ _ _ _ _ _ _ 0 (by omega) w hall c1 c2 cA cB (fun A c w h2 hR => slide_Fit_yes A c ys h ho w h2 hR) cF (fun A c w h2 hR => slide_Slopes_yes A c ys h ho w h2 hR) cS
end Go.Proofs.YtpimkigbdjfjoaaDoor
