/- The console's laws at this program: a command's line, as the code tells it. -/
import Derived.Test.YtbiedfkmmcaplaaGreatDoorQd
import Derived.Test.YtbiedfkmmcaplaaGreatDoorQb
import Derived.Test.YtbiedfkmmcaplaaGreatDoorRc
set_option linter.all false
namespace Go.Proofs.YtbiedfkmmcaplaaGreatDoor
open Go.RowKit
attribute [local go_sem] Oper.semAt_some

theorem bytesOf_cons (x : ByteArray) (l : List ByteArray) : bytesOf (x :: l) = x.size + bytesOf l := rfl
theorem bytesOf_nil : bytesOf [] = 0 := rfl
theorem bytesOf_app : ∀ a b : List ByteArray, bytesOf (a ++ b) = bytesOf a + bytesOf b
  | [], b => by simp [bytesOf]
  | x :: a, b => by rw [List.cons_append, bytesOf_cons, bytesOf_cons, bytesOf_app a b]; omega
theorem rWhatB_size (n : Nat) : (rWhatB n).size ≤ 7 := by
  rcases Nat.lt_or_ge n 9 with h | h
  · obtain rfl | rfl | rfl | rfl | rfl | rfl | rfl | rfl | rfl : n = 0 ∨ n = 1 ∨ n = 2 ∨ n = 3 ∨ n = 4 ∨ n = 5 ∨ n = 6 ∨ n = 7 ∨ n = 8 := by omega
    all_goals decide
  · unfold rWhatB
    rw [List.getD_eq_getElem?_getD, List.getElem?_eq_none (by simpa [rWhatL] using h)]
    decide
theorem pts_bytes : ∀ l : List (Int × Int), (∀ p ∈ l, i64In p.1 ∧ i64In p.2) → bytesOf (l.flatMap fun p => [itoaB p.1, itoaB p.2]) ≤ 40 * l.length ∧ (l.flatMap fun p => [itoaB p.1, itoaB p.2]).length = 2 * l.length
  | [], _ => ⟨by simp [bytesOf], rfl⟩
  | p :: l, h => by
    obtain ⟨i1, i2⟩ := pts_bytes l fun q hq => h q (List.mem_cons_of_mem _ hq)
    obtain ⟨h1, h2⟩ := h p List.mem_cons_self
    have e1 := itoaB_len _ h1
    have e2 := itoaB_len _ h2
    rw [List.flatMap_cons, bytesOf_app, bytesOf_cons, bytesOf_cons, bytesOf_nil, List.length_append, i2]
    simp only [List.length_cons, List.length_nil]
    omega
def Short (c : Cm) : Prop := c.nm.size ≤ 1000 ∧ c.qn.size ≤ 1000 ∧ c.mn.size ≤ 1000
def szW (l : List ByteArray) : Nat := bytesOf l + l.length
theorem sz_if {p : Prop} [Decidable p] {a b : List ByteArray} {n : Nat} (h1 : szW a ≤ n) (h2 : szW b ≤ n) : szW (if p then a else b) ≤ n := by
  by_cases h : p
  · rw [if_pos h]; exact h1
  · rw [if_neg h]; exact h2
set_option maxHeartbeats 4000000 in
theorem words_size {c : Cm} (hc : CmOK c) (hs : Short c) (hm : c.masks.length ≤ 310) (hp : c.pts.length ≤ 40) : bytesOf (cWords c) + (cWords c).length ≤ 9000 := by
  obtain ⟨s1, s2, s3⟩ := hs
  have w1 : wPower.size = 5 := by decide
  have w2 : wCrash.size = 5 := by decide
  have w3 : wSync.size = 4 := by decide
  have w4 : wFlush.size = 5 := by decide
  have w5 : wCompact.size = 7 := by decide
  have w6 : wRead.size = 4 := by decide
  have w7 : wCreate.size = 6 := by decide
  have w8 : wDrop.size = 4 := by decide
  have w9 : wAppend.size = 6 := by decide
  have wa : wRetain.size = 6 := by decide
  have i1 := itoaB_len _ hc.n
  have i2 := itoaB_len _ hc.me
  have i3 := itoaB_len _ hc.mf
  have i4 := itoaB_len _ hc.ms
  have i5 := itoaB_len _ hc.qa
  have i6 := itoaB_len _ hc.qb
  have i7 := itoaB_len _ hc.qN
  have i8 := itoaB_len _ hc.t
  have i9 := bytesOf_itoa c.masks hc.masks
  obtain ⟨p1, p2⟩ := pts_bytes c.pts hc.pts
  have hh := hexB_size c.bits.toNat
  have r1 := rWhatB_size 6
  have r2 := rWhatB_size 8
  have r3 := rWhatB_size c.qw.toNat
  have r4 := rWhatB_size c.qk.toNat
  show szW (cWords c) ≤ 9000
  unfold cWords cMut cAsk
  repeat' (with_reducible refine sz_if ?_ ?_)
  all_goals
    unfold szW
    try simp only [bytesOf_app, bytesOf_cons, bytesOf_nil, List.length_append, List.length_cons, List.length_nil, List.length_map]
    omega
theorem line_size {c : Cm} (hc : CmOK c) (hs : Short c) (hm : c.masks.length ≤ 310) (hp : c.pts.length ≤ 40) : (joinB sBlank (cWords c)).size ≤ 10000 := by
  have h1 := words_size hc hs hm hp
  have h2 := joinB_size sBlank (cWords c)
  have h3 : sBlank.size = 1 := by decide
  rw [h3] at h2
  omega
def LineR (c : Cm) : Option ByteArray → Prop
  | some s => s = joinB sBlank (cWords c) ∧ c.masks.length ≤ 300 ∧ c.pts.length ≤ 20 ∧ pLine s = some c
  | none => ¬ (c.masks.length ≤ 300 ∧ c.pts.length ≤ 20 ∧ pLine (joinB sBlank (cWords c)) = some c)
def EndR : Option ByteArray → Ending → Prop
  | some s, e => e = .returned (.tuple #[.string s, .int .i64 0])
  | none, e => e = .returned (.tuple #[.string ⟨#[]⟩, .int .i64 410])

set_option maxRecDepth 100000 in
set_option maxHeartbeats 8000000 in
theorem con_Line (c : Cm) (hc : CmOK c) (hs : Short c) (A : Option Addr) (ac : Nat) (M : Option Addr) (mc : Nat) (w : World) (hL : Laid w) (hD : Deb w) (hA : RK 166 2 w A c.pts.length ac (ptsV c.pts)) (hM : RK 3 1 w M c.masks.length mc (intV c.masks)) :
    Calls Tryz.prog 12 #[.agg (c.cs A ac M mc)] w fun e w' => ∃ r, EndR r e ∧ LineR c r ∧ Below w.heap.size w w' := by
  obtain ⟨X, hX⟩ : ∃ X, X = c.cs A ac M mc := ⟨_, rfl⟩
  have hXs : X.size = 19 := by rw [hX]; rfl
  have hX1 : X.all (·.oneCell') = true := by rw [hX]; exact cmd_one _ _ _ _ _ _
  have x18 : X[18]? = some (.slice M c.masks.length mc) := by rw [hX]; rfl
  have x7 : X[7]? = some (.slice A c.pts.length ac) := by rw [hX]; rfl
  have fb := na w X 38
  have hb1 := bA (b0 w) (.cells X 38)
  obtain ⟨z1, z2, z3⟩ := rcell fb
  have z18 := (z1 18).trans x18
  have z7 := (z1 7).trans x7
  rw [← hX]
  obtain ⟨mn, hmn⟩ : ∃ mn, mn = c.masks.length := ⟨_, rfl⟩
  obtain ⟨pn, hpn⟩ : ∃ pn, pn = c.pts.length := ⟨_, rfl⟩
  rw [← hmn] at z18
  rw [← hpn] at z7
  have HB1 := hide hb1
  have HMN := hide hmn
  have HPN := hide hpn
  have HX := hide hX
  have FB := hide fb
  clear hX x18 x7 z1 z2 z3 hb1 hmn hpn fb
  by_cases h300 : mn ≤ 300
  · have d1 : decide ((300 : Int) < (mn : Int)) = false := decide_eq_false (by omega)
    by_cases h20 : pn ≤ 20
    · have d2 : decide ((20 : Int) < (pn : Int)) = false := decide_eq_false (by omega)
      obtain ⟨S, hS⟩ : ∃ S, S = joinB sBlank (cWords c) := ⟨_, rfl⟩
      have hSz : S.size ≤ 10000 := by rw [hS]; exact line_size hc hs (by have := HMN.out; omega) (by have := HPN.out; omega)
      have hws := words_size hc hs (by have := HMN.out; omega) (by have := HPN.out; omega)
      have HS := hide hS
      have HL := hide (fun W (hb : Below w.heap.size w W) => hL.below hb)
      have cW := con_words c hc A ac M mc (w.alloc (.cells X 38)) (hL.below HB1.out) (hD.below HB1.out) (hA.inK.inV.below HB1.out) (hM.inK.inV.below HB1.out)
      have HA := hide hA
      have HM := hide hM
      rw [← HX.out] at cW
      have HWS := hide hws
      clear hS hws hL hD hA hM hc hs
      go_enter Tryz.func12, Tryz.ntmps12
      have fb := FB.out
      go_wp2_with (refine wpList_loadW rfl _ _ rfl w.heap.size 38 X rfl fb _ rfl Tryz.underlying38 (by rw [size48, hXs]) ?_; simp only [Act.put, List.setIfInBounds_toArray, List.set_cons_zero, List.set_cons_succ])
      refine cW.mono ?_
      rintro e w2 ⟨v, rfl, hr2, hb2⟩
      obtain ⟨A2, c2, rfl, hk2⟩ := hr2
      have c22 := con_joined sBlank A2 c2 (cWords c) w2 hk2 (by have := HWS.out; omega) (by have := HWS.out; omega) (by decide)
      rw [← HS.out] at c22
      have HB2 := hide (bB HB1.out hb2)
      have f2 := kp hb2 FB.out
      clear hb2 hk2 cW z18 z7 fb
      go_wp2_with fail
      refine c22.mono ?_
      rintro e w3 ⟨rfl, hb3⟩
      have HB3 := hide (bB HB2.out hb3)
      have f3 := kp hb3 f2
      clear hb3 c22 f2
      go_wp2_with fail
      refine (con_Parse S hSz w3 (HL.out _ HB3.out)).mono ?_
      rintro e w4 hp4
      cases hpl : pLine S with
      | none =>
        simp only [hpl] at hp4
        obtain ⟨rfl, hb4⟩ := hp4
        have HN : Hid (LineR c none) := hide (fun h => by have h2 := h.2.2; rw [← HS.out, hpl] at h2; cases h2)
        have HB4 := hide (bB HB3.out hb4)
        have hzc := zCmd_size
        have hz1 := zCmd_one
        clear hb4 hpl
        go_wp2_with (refine wpList_storeW rfl _ _ _ rfl w4.heap.size 38 _ zCmd rfl rfl (na w4 zCmd 38) (by rw [size48, hzc]) rfl hz1 ?_; simp only [Act.put]; generalize hT5 : setRow _ _ _ = w5; obtain ⟨hx5, f5⟩ := fin_x (b0 _) (na w4 zCmd 38) hT5; have HB5 := hide (bB HB4.out (bX (bA (b0 w4) (.cells zCmd 38)) hx5 (Nat.le_refl _))); clear hT5 hx5)
        go_ret2
        exact ⟨none, rfl, HN.out, HB5.out⟩
      | some c' =>
        simp only [hpl] at hp4
        obtain ⟨v, rfl, hk', hb4⟩ := hp4
        obtain ⟨A', ac', M', mc', rfl, hA', hM'⟩ := hk'.k
        obtain ⟨Y, hY⟩ : ∃ Y, Y = c'.cs A' ac' M' mc' := ⟨_, rfl⟩
        have hYs : Y.size = 19 := by rw [hY]; rfl
        have hY1 : Y.all (·.oneCell') = true := by rw [hY]; exact cmd_one _ _ _ _ _ _
        rw [← hY]
        have HY := hide hY
        have HB4 := hide (bB HB3.out hb4)
        have f4 := kp hb4 f3
        have HP := hide hpl
        have HA' := hide hA'
        have HM' := hide hM'
        clear hb4 hY hk' hA' hM' hpl f3
        go_wp2_with (first
          | (refine wpList_storeW rfl _ _ _ rfl w4.heap.size 38 _ Y rfl rfl (na w4 zCmd 38) (by rw [size48, hYs]) (by rw [hYs]; rfl) hY1 ?_; simp only [Act.put]; generalize hT5 : setRow _ _ _ = w5; obtain ⟨hx5, g5⟩ := fin_x (b0 _) (na w4 zCmd 38) hT5; have HB45 := hide (bX (bA (b0 w4) (.cells zCmd 38)) hx5 (Nat.le_refl _)); have f5 := kp HB45.out f4; clear hT5 hx5)
          | (refine wpList_loadG rfl _ _ rfl w4.heap.size 38 Y rfl g5 _ rfl Tryz.underlying38 (by rw [size48, hYs]) ?_; simp only [Act.put, List.setIfInBounds_toArray, List.set_cons_zero, List.set_cons_succ])
          | (refine wpList_loadG rfl _ _ rfl w.heap.size 38 X rfl f5 _ rfl Tryz.underlying38 (by rw [size48, hXs]) ?_; simp only [Act.put, List.setIfInBounds_toArray, List.set_cons_zero, List.set_cons_succ]))
        have HB5 := hide (bB HB4.out HB45.out)
        have c12 := con_Same c' c A' ac' M' mc' A ac M mc w5 (HA'.out.below HB45.out) (HM'.out.below HB45.out) (HA.out.below HB5.out) (HM.out.below HB5.out)
        rw [← HY.out, ← HX.out] at c12
        refine c12.mono ?_
        rintro e w6 ⟨b, rfl, hbe, hb6⟩
        have HB6 := hide (bB HB5.out hb6)
        have HBE := hide hbe
        clear hbe hb6 c12
        cases b
        · have HN : Hid (LineR c none) := hide (fun h => by
            have h2 := h.2.2
            rw [← HS.out, HP.out] at h2
            have := HBE.out.2 (Option.some.inj h2)
            cases this)
          go_wp2_with fail
          go_ret2
          exact ⟨none, rfl, HN.out, HB6.out⟩
        · have HN : Hid (LineR c (some S)) := hide ⟨HS.out, by have := HMN.out; omega, by have := HPN.out; omega, by rw [HP.out, HBE.out.1 rfl]⟩
          go_wp2_with fail
          go_ret2
          exact ⟨some S, rfl, HN.out, HB6.out⟩
    · have d2 : decide ((20 : Int) < (pn : Int)) = true := decide_eq_true (by omega)
      have HN : Hid (LineR c none) := hide (fun h => by have := h.2.1; have := HPN.out; omega)
      clear hc hs hL hD hA hM
      go_enter Tryz.func12, Tryz.ntmps12
      go_wp2_with fail
      go_ret2
      exact ⟨none, rfl, HN.out, HB1.out⟩
  · have d1 : decide ((300 : Int) < (mn : Int)) = true := decide_eq_true (by omega)
    have HN : Hid (LineR c none) := hide (fun h => by have := h.1; have := HMN.out; omega)
    clear hc hs hL hD hA hM
    go_enter Tryz.func12, Tryz.ntmps12
    go_wp2_with fail
    go_ret2
    exact ⟨none, rfl, HN.out, HB1.out⟩
end Go.Proofs.YtbiedfkmmcaplaaGreatDoor
