/- ConsoleBack: the walk of the law. The console at this program: a command that came in. The table of trailing noughts, out of the laid variables. -/
import Derived.Test.YtlnonecibpjcoaaGreatDoorQg
import Derived.Test.YtlnonecibpjcoaaGreatDoorQf
import Derived.Test.YtlnonecibpjcoaaGreatDoorKX
import Derived.Test.YtlnonecibpjcoaaGreatDoorRb
import Derived.Test.YtlnonecibpjcoaaGreatDoorFq
import Derived.Test.YtlnonecibpjcoaaGreatDoorQd
set_option linter.unusedSimpArgs false
set_option linter.unnecessarySimpa false
set_option linter.unusedVariables false
set_option linter.unusedSectionVars false
namespace Go.Proofs.YtlnonecibpjcoaaGreatDoor
open Go.RowKit
attribute [local go_sem] Oper.semAt_some

theorem cmd_cells (c : Cm) (A : Option Addr) (ac : Nat) (M : Option Addr) (mc : Nat) : (c.cs A ac M mc).all (·.oneCell') = true := cmd_one _ _ _ _ _ _
/-- a command as an argument may be -/
structure CmIn (c : Cm) : Prop where
  n : i64In c.n
  me : i64In c.me
  mf : i64In c.mf
  ms : i64In c.ms
  qa : i64In c.qa
  qb : i64In c.qb
  qN : i64In c.qN
  t : i64In c.t
  bits : 0 ≤ c.bits ∧ c.bits < 18446744073709551616
  masks : ∀ x ∈ c.masks, i64In x
  pts : ∀ p ∈ c.pts, i64In p.1 ∧ i64In p.2
theorem few_ok {c : Cm} (h : CmIn c) : CmOK (fewC c) :=
  ⟨h.n, h.me, h.mf, h.ms, h.qa, h.qb, h.qN, h.t, h.bits, fun x hx => h.masks x (List.mem_of_mem_take hx), fun p hp => h.pts p (List.mem_of_mem_take hp),
    by show (c.masks.take 310).length ≤ 1000; rw [List.length_take]; omega, by show (c.pts.take 40).length ≤ 1000; rw [List.length_take]; omega⟩
theorem long_no {c : Cm} (h : longB c = false) : Short c := by
  unfold longB at h
  simp only [Bool.or_eq_false_iff, decide_eq_false_iff_not] at h
  exact ⟨by omega, by omega, by omega⟩

set_option maxRecDepth 100000 in
set_option maxHeartbeats 16000000 in
theorem law_Back (x : Cm) (hx : CmIn x) (A : Option Addr) (ac : Nat) (M : Option Addr) (mc : Nat) (s : ByteArray) (w : World) (hL : Laid w) (hD : Deb w) (hA : InK w A x.pts.length 2 (ptsV x.pts)) (hac : x.pts.length ≤ ac) (hM : InK w M x.masks.length 1 (intV x.masks)) (hmc : x.masks.length ≤ mc) :
    Calls Tryz.prog 6 #[.agg (x.cs A ac M mc), .string s] w fun e w' => e = .returned (.bool true) ∧ Below w.heap.size w w' := by
  have HOK := hide (few_ok hx)
  have HL := hide (fun W (hb : Below w.heap.size w W) => hL.below hb)
  have HDB := hide (fun W (hb : Below w.heap.size w W) => hD.below hb)
  have HFW := hide (fun W (hb : Below w.heap.size w W) => con_few x A ac M mc W (hA.below hb) hac (hM.below hb) hmc)
  obtain ⟨c, hc⟩ : ∃ c, c = fewC x := ⟨_, rfl⟩
  rw [← hc] at HOK HFW
  obtain ⟨X, hX⟩ : ∃ X, X = x.cs A ac M mc := ⟨_, rfl⟩
  have hXs : X.size = 19 := by rw [hX]; rfl
  rw [← hX] at HFW ⊢
  obtain ⟨m, hm⟩ : ∃ m : Nat, m = min s.size 2000 := ⟨_, rfl⟩
  have e1 : min (s.size : Int) 2000 = (m : Int) := by omega
  obtain ⟨L, hLn⟩ : ∃ L, L = s.extract 0 m := ⟨_, rfl⟩
  have hLs : L.size ≤ 10000 := by rw [hLn]; have := cutB_size s m (by omega); omega
  have HLN := hide hLn
  have hT := strEq L
  have hzc := zCmd_size
  have hz1 := zCmd_one
  have fb := na w X 48
  have hb1 := bA (b0 w) (.cells X 48)
  have HB1 := hide hb1
  have FB := hide fb
  have cw := Tryz.wakes31 (w.alloc (.cells X 48)) (hL.below hb1)
  have h61 : ∃ K, K = (fun (x : Nat) => x) 0 := ⟨_, rfl⟩
  clear hx hL hD hA hac hM hmc hc hX hm hLn fb hb1 h61
  go_enter Tryz.func6, Tryz.ntmps6
  go_wp2_with fail
  refine cw.mono ?_
  rintro e w3 ⟨rfl, hb3⟩
  have HB3 := hide (bB HB1.out hb3)
  have f3 := kp hb3 FB.out
  clear cw hb3 FB HB1
  go_wp2_with (refine wpList_loadW rfl _ _ rfl w.heap.size 48 X rfl f3 _ rfl Tryz.underlying48 (by rw [size48, hXs]) ?_; simp only [Act.put, List.setIfInBounds_toArray, List.set_cons_zero, List.set_cons_succ])
  refine (HFW.out w3 HB3.out).mono ?_
  rintro e w4 ⟨v, rfl, hk4, hb4⟩
  have HB4 := hide (bB HB3.out hb4)
  obtain ⟨A4, ac4, M4, mc4, rfl, hA4, hM4⟩ := hk4
  obtain ⟨Y, hY⟩ : ∃ Y, Y = c.cs A4 ac4 M4 mc4 := ⟨_, rfl⟩
  have hYs : Y.size = 19 := by rw [hY]; rfl
  have hY1 : Y.all (·.oneCell') = true := by rw [hY]; exact cmd_cells _ _ _ _ _
  rw [← hY]
  have HY := hide hY
  have HA4 := hide hA4
  have HM4 := hide hM4
  clear hb4 hY hA4 hM4 f3 HFW
  go_wp2_with (first
    | (refine wpList_storeW rfl _ _ _ rfl w4.heap.size 48 _ Y rfl rfl (na w4 zCmd 48) (by rw [size48, hYs]) (by rw [hYs]; rfl) hY1 ?_; simp only [Act.put]; generalize hT5 : setRow _ _ _ = w5; obtain ⟨hx5, f5⟩ := fin_x (b0 _) (na w4 zCmd 48) hT5; have HB45 := hide (bX (bA (b0 w4) (.cells zCmd 48)) hx5 (Nat.le_refl _)); clear hT5 hx5)
    | (refine wpList_loadW rfl _ _ rfl w4.heap.size 48 Y rfl f5 _ rfl Tryz.underlying48 (by rw [size48, hYs]) ?_; simp only [Act.put, List.setIfInBounds_toArray, List.set_cons_zero, List.set_cons_succ]))
  have HB5 := hide (bB HB4.out HB45.out)
  have HA5 := hide (HA4.out.below HB45.out)
  have HM5 := hide (HM4.out.below HB45.out)
  clear HA4 HM4
  have cl := con_long c A4 ac4 M4 mc4 w5
  rw [← HY.out] at cl
  refine cl.mono ?_
  rintro e w6 ⟨rfl, hb6⟩
  have HB6 := hide (bB HB5.out hb6)
  have HB56 := hide hb6
  have f6 := kp hb6 f5
  clear cl hb6 f5
  cases hlg : longB c
  · have HSH := hide (long_no hlg)
    clear hlg
    go_wp2_with (refine wpList_loadW rfl _ _ rfl w4.heap.size 48 Y rfl f6 _ rfl Tryz.underlying48 (by rw [size48, hYs]) ?_; simp only [Act.put, List.setIfInBounds_toArray, List.set_cons_zero, List.set_cons_succ])
    have c16 := con_Line c HOK.out HSH.out A4 ac4 M4 mc4 w6 (HL.out _ HB6.out) (HDB.out _ HB6.out) (HA5.out.below HB56.out) (HM5.out.below HB56.out)
    rw [← HY.out] at c16
    refine c16.mono ?_
    rintro e w7 ⟨r, he, hr, hb7⟩
    have HB7 := hide (bB HB6.out hb7)
    have HB57 := hide (bB HB56.out hb7)
    have f7 := kp hb7 f6
    clear c16 hb7 f6
    cases r with
    | none =>
      have he : e = .returned (.tuple #[.string ⟨#[]⟩, .int .i64 410]) := he
      subst he
      clear hr f7
      go_wp2_with fail
      rw [← HLN.out]
      refine (con_Parse L hLs w7 (HL.out _ HB7.out)).mono ?_
      rintro e wP hpP
      cases hpl : pLine L with
      | none =>
        simp only [hpl] at hpP
        obtain ⟨rfl, hbP⟩ := hpP
        have HBP := hide (bB HB7.out hbP)
        clear hbP hpl
        go_wp2_with (refine wpList_storeW rfl _ _ _ rfl wP.heap.size 48 _ zCmd rfl rfl (na wP zCmd 48) (by rw [size48, hzc]) rfl hz1 ?_; simp only [Act.put]; generalize hTQ : setRow _ _ _ = wQ; obtain ⟨hxQ, -⟩ := fin_x (b0 _) (na wP zCmd 48) hTQ; have HBQ := hide (bB HBP.out (bX (bA (b0 wP) (.cells zCmd 48)) hxQ (Nat.le_refl _))); clear hTQ hxQ)
        go_ret
        exact ⟨rfl, HBQ.out⟩
      | some d =>
        simp only [hpl] at hpP
        obtain ⟨v, rfl, hkd, hbP⟩ := hpP
        obtain ⟨AD, acD, MD, mcD, rfl, hAD, hMD⟩ := hkd.k
        obtain ⟨Z, hZ⟩ : ∃ Z, Z = d.cs AD acD MD mcD := ⟨_, rfl⟩
        have hZs : Z.size = 19 := by rw [hZ]; rfl
        have hZ1 : Z.all (·.oneCell') = true := by rw [hZ]; exact cmd_cells _ _ _ _ _
        rw [← hZ]
        have HZ := hide hZ
        have HBP := hide (bB HB7.out hbP)
        have HAD := hide hAD
        have HMD := hide hMD
        have HLB := hide (line_back hpl)
        have HPL := hide hpl
        clear hbP hZ hkd hAD hMD hpl
        go_wp2_with (first
          | (refine wpList_storeW rfl _ _ _ rfl wP.heap.size 48 _ Z rfl rfl (na wP zCmd 48) (by rw [size48, hZs]) (by rw [hZs]; rfl) hZ1 ?_; simp only [Act.put]; generalize hTQ : setRow _ _ _ = wQ; obtain ⟨hxQ, fQ⟩ := fin_x (b0 _) (na wP zCmd 48) hTQ; have HBPQ := hide (bX (bA (b0 wP) (.cells zCmd 48)) hxQ (Nat.le_refl _)); clear hTQ hxQ)
          | (refine wpList_loadW rfl _ _ rfl wP.heap.size 48 Z rfl fQ _ rfl Tryz.underlying48 (by rw [size48, hZs]) ?_; simp only [Act.put, List.setIfInBounds_toArray, List.set_cons_zero, List.set_cons_succ]))
        have HBQ := hide (bB HBP.out HBPQ.out)
        have c16 := con_Line d HLB.out.2.1.ok ⟨HLB.out.2.1.nm, HLB.out.2.1.qn, HLB.out.2.1.mn⟩ AD acD MD mcD wQ (HL.out _ HBQ.out) (HDB.out _ HBQ.out) (HAD.out.below HBPQ.out) (HMD.out.below HBPQ.out)
        rw [← HZ.out] at c16
        refine c16.mono ?_
        rintro e wR ⟨r, he, hr, hbR⟩
        have HBR := hide (bB HBQ.out hbR)
        clear c16 hbR
        cases r with
        | none => exact absurd ⟨HLB.out.2.1.ml, HLB.out.2.1.pl, by rw [HLB.out.1]; exact HPL.out⟩ hr
        | some S' =>
          obtain rfl : S' = L := hr.1.trans HLB.out.1
          have he : e = .returned (.tuple #[.string S', .int .i64 0]) := he
          subst he
          clear hr
          go_wp2_with fail
          go_ret
          exact ⟨rfl, HBR.out⟩
    | some S =>
      have he : e = .returned (.tuple #[.string S, .int .i64 0]) := he
      subst he
      have hpc := hr.2.2.2
      have hSz : S.size ≤ 10000 := by rw [hr.1]; exact line_size HOK.out HSH.out (Nat.le_trans hr.2.1 (by decide)) (Nat.le_trans hr.2.2.1 (by decide))
      have HLS := hide (line_back hpc)
      have c10 := con_Parse S hSz w7 (HL.out _ HB7.out)
      simp only [hpc] at c10
      clear hr hpc
      go_wp2_with fail
      refine c10.mono ?_
      rintro e w8 ⟨v, rfl, hkd, hb8⟩
      obtain ⟨A8, ac8, M8, mc8, rfl, hA8, hM8⟩ := hkd.k
      obtain ⟨V, hV⟩ : ∃ V, V = c.cs A8 ac8 M8 mc8 := ⟨_, rfl⟩
      have hVs : V.size = 19 := by rw [hV]; rfl
      have hV1 : V.all (·.oneCell') = true := by rw [hV]; exact cmd_cells _ _ _ _ _
      rw [← hV]
      have HV := hide hV
      have HB8 := hide (bB HB7.out hb8)
      have HB58 := hide (bB HB57.out hb8)
      have f8 := kp hb8 f7
      have h48 : w4.heap.size < w8.heap.size := (rcell f8).2.2
      have HA8 := hide hA8
      have HM8 := hide hM8
      clear c10 hb8 hV hkd hA8 hM8 f7
      go_wp2_with (first
        | (refine wpList_storeW rfl _ _ _ rfl w8.heap.size 48 _ V rfl rfl (na w8 zCmd 48) (by rw [size48, hVs]) (by rw [hVs]; rfl) hV1 ?_; simp only [Act.put]; generalize hT9 : setRow _ _ _ = w9; obtain ⟨hx9, g9⟩ := fin_x (b0 _) (na w8 zCmd 48) hT9; have HB89 := hide (bX (bA (b0 w8) (.cells zCmd 48)) hx9 (Nat.le_refl _)); have f9 := kx hx9 (kp (bA (b0 w8) (.cells zCmd 48)) f8) (by omega); clear hT9 hx9)
        | (refine wpList_loadG rfl _ _ rfl w8.heap.size 48 V rfl g9 _ rfl Tryz.underlying48 (by rw [size48, hVs]) ?_; simp only [Act.put, List.setIfInBounds_toArray, List.set_cons_zero, List.set_cons_succ])
        | (refine wpList_loadG rfl _ _ rfl w4.heap.size 48 Y rfl f9 _ rfl Tryz.underlying48 (by rw [size48, hYs]) ?_; simp only [Act.put, List.setIfInBounds_toArray, List.set_cons_zero, List.set_cons_succ]))
      have HB9 := hide (bB HB8.out HB89.out)
      have HB59 := hide (bB HB58.out HB89.out)
      have c12 := con_Same c c A8 ac8 M8 mc8 A4 ac4 M4 mc4 w9 (HA8.out.below HB89.out) (HM8.out.below HB89.out) (HA5.out.below HB59.out) (HM5.out.below HB59.out)
      rw [← HV.out, ← HY.out] at c12
      refine c12.mono ?_
      rintro e wA ⟨b, rfl, hbe, hbA⟩
      obtain rfl : b = true := hbe.2 rfl
      have HBA := hide (bB HB9.out hbA)
      have cC : ∀ sub W, Below w.heap.size w W → Calls Tryz.prog 18 #[.string S, .string sub] W (fun e w' => e = .returned (.bool (Lib.contains S.data.toList sub.data.toList)) ∧ w' = W) := fun sub W hb => by
        obtain ⟨m0, hm0⟩ := (HL.out W hb).mx
        exact Tryz.strings_Contains S sub m0 W (by omega) hm0
      have k1 : Lib.contains S.data.toList (⟨#[10]⟩ : ByteArray).data.toList = false := HLS.out.2.2.1
      have k2 : Lib.contains S.data.toList (⟨#[32, 32]⟩ : ByteArray).data.toList = false := HLS.out.2.2.2.1
      have k3 : Lib.hasPrefix S.data.toList (⟨#[32]⟩ : ByteArray).data.toList = false := HLS.out.2.2.2.2.1
      have k4 : Lib.hasSuffix S.data.toList (⟨#[32]⟩ : ByteArray).data.toList = false := HLS.out.2.2.2.2.2
      have c1 := cC ⟨#[10]⟩ wA HBA.out
      have c2 := cC ⟨#[32, 32]⟩ wA HBA.out
      have c3 := Tryz.strings_HasPrefix S ⟨#[32]⟩ wA
      have c4 := Tryz.strings_HasSuffix S ⟨#[32]⟩ wA (by omega)
      rw [k1] at c1
      rw [k2] at c2
      rw [k3] at c3
      rw [k4] at c4
      clear c12 hbe hbA f8 f9 g9 k1 k2 k3 k4 cC
      go_wp2_with fail
      refine c1.mono ?_
      rintro e wB ⟨rfl, hw⟩
      rw [hw]
      clear hw wB
      go_wp2_with fail
      refine c2.mono ?_
      rintro e wB ⟨rfl, hw⟩
      rw [hw]
      clear hw wB
      go_wp2_with fail
      refine c3.mono ?_
      rintro e wB ⟨rfl, hw⟩
      rw [hw]
      clear hw wB
      go_wp2_with fail
      refine c4.mono ?_
      rintro e wB ⟨rfl, hw⟩
      rw [hw]
      clear hw wB
      clear c1 c2 c3 c4
      go_wp2_with fail
      rw [← HLN.out]
      refine (con_Parse L hLs wA (HL.out _ HBA.out)).mono ?_
      rintro e wP hpP
      cases hpl : pLine L with
      | none =>
        simp only [hpl] at hpP
        obtain ⟨rfl, hbP⟩ := hpP
        have HBP := hide (bB HBA.out hbP)
        clear hbP hpl
        go_wp2_with (refine wpList_storeW rfl _ _ _ rfl wP.heap.size 48 _ zCmd rfl rfl (na wP zCmd 48) (by rw [size48, hzc]) rfl hz1 ?_; simp only [Act.put]; generalize hTQ : setRow _ _ _ = wQ; obtain ⟨hxQ, -⟩ := fin_x (b0 _) (na wP zCmd 48) hTQ; have HBQ := hide (bB HBP.out (bX (bA (b0 wP) (.cells zCmd 48)) hxQ (Nat.le_refl _))); clear hTQ hxQ)
        go_ret
        exact ⟨rfl, HBQ.out⟩
      | some d =>
        simp only [hpl] at hpP
        obtain ⟨v, rfl, hkd, hbP⟩ := hpP
        obtain ⟨AD, acD, MD, mcD, rfl, hAD, hMD⟩ := hkd.k
        obtain ⟨Z, hZ⟩ : ∃ Z, Z = d.cs AD acD MD mcD := ⟨_, rfl⟩
        have hZs : Z.size = 19 := by rw [hZ]; rfl
        have hZ1 : Z.all (·.oneCell') = true := by rw [hZ]; exact cmd_cells _ _ _ _ _
        rw [← hZ]
        have HZ := hide hZ
        have HBP := hide (bB HBA.out hbP)
        have HAD := hide hAD
        have HMD := hide hMD
        have HLB := hide (line_back hpl)
        have HPL := hide hpl
        clear hbP hZ hkd hAD hMD hpl
        go_wp2_with (first
          | (refine wpList_storeW rfl _ _ _ rfl wP.heap.size 48 _ Z rfl rfl (na wP zCmd 48) (by rw [size48, hZs]) (by rw [hZs]; rfl) hZ1 ?_; simp only [Act.put]; generalize hTQ : setRow _ _ _ = wQ; obtain ⟨hxQ, fQ⟩ := fin_x (b0 _) (na wP zCmd 48) hTQ; have HBPQ := hide (bX (bA (b0 wP) (.cells zCmd 48)) hxQ (Nat.le_refl _)); clear hTQ hxQ)
          | (refine wpList_loadW rfl _ _ rfl wP.heap.size 48 Z rfl fQ _ rfl Tryz.underlying48 (by rw [size48, hZs]) ?_; simp only [Act.put, List.setIfInBounds_toArray, List.set_cons_zero, List.set_cons_succ]))
        have HBQ := hide (bB HBP.out HBPQ.out)
        have c16 := con_Line d HLB.out.2.1.ok ⟨HLB.out.2.1.nm, HLB.out.2.1.qn, HLB.out.2.1.mn⟩ AD acD MD mcD wQ (HL.out _ HBQ.out) (HDB.out _ HBQ.out) (HAD.out.below HBPQ.out) (HMD.out.below HBPQ.out)
        rw [← HZ.out] at c16
        refine c16.mono ?_
        rintro e wR ⟨r, he, hr, hbR⟩
        have HBR := hide (bB HBQ.out hbR)
        clear c16 hbR
        cases r with
        | none => exact absurd ⟨HLB.out.2.1.ml, HLB.out.2.1.pl, by rw [HLB.out.1]; exact HPL.out⟩ hr
        | some S' =>
          obtain rfl : S' = L := hr.1.trans HLB.out.1
          have he : e = .returned (.tuple #[.string S', .int .i64 0]) := he
          subst he
          clear hr
          go_wp2_with fail
          go_ret
          exact ⟨rfl, HBR.out⟩
  · clear hlg
    go_wp2_with fail
    rw [← HLN.out]
    refine (con_Parse L hLs w6 (HL.out _ HB6.out)).mono ?_
    rintro e wP hpP
    cases hpl : pLine L with
    | none =>
      simp only [hpl] at hpP
      obtain ⟨rfl, hbP⟩ := hpP
      have HBP := hide (bB HB6.out hbP)
      clear hbP hpl
      go_wp2_with (refine wpList_storeW rfl _ _ _ rfl wP.heap.size 48 _ zCmd rfl rfl (na wP zCmd 48) (by rw [size48, hzc]) rfl hz1 ?_; simp only [Act.put]; generalize hTQ : setRow _ _ _ = wQ; obtain ⟨hxQ, -⟩ := fin_x (b0 _) (na wP zCmd 48) hTQ; have HBQ := hide (bB HBP.out (bX (bA (b0 wP) (.cells zCmd 48)) hxQ (Nat.le_refl _))); clear hTQ hxQ)
      go_ret
      exact ⟨rfl, HBQ.out⟩
    | some d =>
      simp only [hpl] at hpP
      obtain ⟨v, rfl, hkd, hbP⟩ := hpP
      obtain ⟨AD, acD, MD, mcD, rfl, hAD, hMD⟩ := hkd.k
      obtain ⟨Z, hZ⟩ : ∃ Z, Z = d.cs AD acD MD mcD := ⟨_, rfl⟩
      have hZs : Z.size = 19 := by rw [hZ]; rfl
      have hZ1 : Z.all (·.oneCell') = true := by rw [hZ]; exact cmd_cells _ _ _ _ _
      rw [← hZ]
      have HZ := hide hZ
      have HBP := hide (bB HB6.out hbP)
      have HAD := hide hAD
      have HMD := hide hMD
      have HLB := hide (line_back hpl)
      have HPL := hide hpl
      clear hbP hZ hkd hAD hMD hpl
      go_wp2_with (first
        | (refine wpList_storeW rfl _ _ _ rfl wP.heap.size 48 _ Z rfl rfl (na wP zCmd 48) (by rw [size48, hZs]) (by rw [hZs]; rfl) hZ1 ?_; simp only [Act.put]; generalize hTQ : setRow _ _ _ = wQ; obtain ⟨hxQ, fQ⟩ := fin_x (b0 _) (na wP zCmd 48) hTQ; have HBPQ := hide (bX (bA (b0 wP) (.cells zCmd 48)) hxQ (Nat.le_refl _)); clear hTQ hxQ)
        | (refine wpList_loadW rfl _ _ rfl wP.heap.size 48 Z rfl fQ _ rfl Tryz.underlying48 (by rw [size48, hZs]) ?_; simp only [Act.put, List.setIfInBounds_toArray, List.set_cons_zero, List.set_cons_succ]))
      have HBQ := hide (bB HBP.out HBPQ.out)
      have c16 := con_Line d HLB.out.2.1.ok ⟨HLB.out.2.1.nm, HLB.out.2.1.qn, HLB.out.2.1.mn⟩ AD acD MD mcD wQ (HL.out _ HBQ.out) (HDB.out _ HBQ.out) (HAD.out.below HBPQ.out) (HMD.out.below HBPQ.out)
      rw [← HZ.out] at c16
      refine c16.mono ?_
      rintro e wR ⟨r, he, hr, hbR⟩
      have HBR := hide (bB HBQ.out hbR)
      clear c16 hbR
      cases r with
      | none => exact absurd ⟨HLB.out.2.1.ml, HLB.out.2.1.pl, by rw [HLB.out.1]; exact HPL.out⟩ hr
      | some S' =>
        obtain rfl : S' = L := hr.1.trans HLB.out.1
        have he : e = .returned (.tuple #[.string S', .int .i64 0]) := he
        subst he
        clear hr
        go_wp2_with fail
        go_ret
        exact ⟨rfl, HBR.out⟩
end Go.Proofs.YtlnonecibpjcoaaGreatDoor

namespace Go.Proofs.YtlnonecibpjcoaaGreatDoor
open Go.ChangeShapes Go.WideShapes Go.ChangeAt Go.RowKit Go.Joins Go.Deep
section
variable {H : Type} {enc : TypeId × Value → H} {w : World} {base : Nat} {sp : Nat → Bool} {held : Bool} {fuel : Nat} {cs : List Value} {x : DataW H × List MemPlace}
set_option maxRecDepth 100000 in
theorem op48 (h : DataW.trod enc Tryz.prog w base sp held fuel 48 cs = some x) : ∃ (a0 : Int) (a1_0 : Int) (a1_1_0 : Int) (a1_1_1 : ByteArray) (a1_1_2 : Int) (a1_1_3 : Int) (a1_1_4 : Int) (a1_1_5X : Option Addr) (a1_1_5n : Nat) (a1_1_5C : Nat) (a1_1_5r : List (List Int)) (a1_2_0 : Int) (a1_2_1 : ByteArray) (a1_2_2 : Int) (a1_2_3 : Int) (a1_2_4 : Int) (a1_2_5 : Int) (a1_3 : ByteArray) (a1_4 : Int) (a1_5 : Int) (a2 : Int) (a3X : Option Addr) (a3n : Nat) (a3C : Nat) (a3r : List (List Int)), cs = [.int .i64 a0, .int .i64 a1_0, .int .i64 a1_1_0, .string a1_1_1, .int .i64 a1_1_2, .int .i64 a1_1_3, .int .i64 a1_1_4, .slice a1_1_5X a1_1_5n a1_1_5C, .int .i64 a1_2_0, .string a1_2_1, .int .i64 a1_2_2, .int .i64 a1_2_3, .int .i64 a1_2_4, .int .i64 a1_2_5, .string a1_3, .int .i64 a1_4, .int .u64 a1_5, .int .i64 a2, .slice a3X a3n a3C] ∧ i64In a0 ∧ i64In a1_0 ∧ i64In a1_1_0 ∧ a1_1_1.size ≤ 9223372036854775807 ∧ i64In a1_1_2 ∧ i64In a1_1_3 ∧ i64In a1_1_4 ∧ RowsIn w a1_1_5X a1_1_5n a1_1_5C 2 a1_1_5r ∧ i64In a1_2_0 ∧ a1_2_1.size ≤ 9223372036854775807 ∧ i64In a1_2_2 ∧ i64In a1_2_3 ∧ i64In a1_2_4 ∧ i64In a1_2_5 ∧ a1_3.size ≤ 9223372036854775807 ∧ i64In a1_4 ∧ (0 ≤ a1_5 ∧ a1_5 < 18446744073709551616) ∧ i64In a2 ∧ RowsIn w a3X a3n a3C 1 a3r := by
  obtain ⟨xs, n, _, _, hlen, hxl, hf⟩ := DataW.trod_struct Tryz.underlying48 h
  have hC : Tryz.prog.cellsOf 48 = 19 := by kernel_rfl
  have hC3 : Tryz.prog.cellsOf 3 = 1 := by kernel_rfl
  have hC29 : Tryz.prog.cellsOf 29 = 16 := by kernel_rfl
  have hC46 : Tryz.prog.cellsOf 46 = 1 := by kernel_rfl
  rw [hC] at hlen
  match cs, hlen, xs, hxl with
  | [c0, c1, c2, c3, c4, c5, c6, c7, c8, c9, c10, c11, c12, c13, c14, c15, c16, c17, c18], _, [y0, y1, y2, y3], _ =>
    have k0 : DataW.trod enc Tryz.prog w base sp held n 3 ((([c0, c1, c2, c3, c4, c5, c6, c7, c8, c9, c10, c11, c12, c13, c14, c15, c16, c17, c18] : List Value).drop 0).take (Tryz.prog.cellsOf 3)) = some y0 := hf 0 _ rfl
    rw [hC3] at k0
    obtain ⟨a0, e0, f0_0⟩ := op_int Tryz.underlying3 k0
    have k1 : DataW.trod enc Tryz.prog w base sp held n 29 ((([c0, c1, c2, c3, c4, c5, c6, c7, c8, c9, c10, c11, c12, c13, c14, c15, c16, c17, c18] : List Value).drop 1).take (Tryz.prog.cellsOf 29)) = some y1 := hf 1 _ rfl
    rw [hC29] at k1
    obtain ⟨a1_0, a1_1_0, a1_1_1, a1_1_2, a1_1_3, a1_1_4, a1_1_5X, a1_1_5n, a1_1_5C, a1_1_5r, a1_2_0, a1_2_1, a1_2_2, a1_2_3, a1_2_4, a1_2_5, a1_3, a1_4, a1_5, e1, f1_0, f1_1, f1_2, f1_3, f1_4, f1_5, f1_6, f1_7, f1_8, f1_9, f1_10, f1_11, f1_12, f1_13, f1_14, f1_15⟩ := op29 k1
    have k2 : DataW.trod enc Tryz.prog w base sp held n 3 ((([c0, c1, c2, c3, c4, c5, c6, c7, c8, c9, c10, c11, c12, c13, c14, c15, c16, c17, c18] : List Value).drop 17).take (Tryz.prog.cellsOf 3)) = some y2 := hf 2 _ rfl
    rw [hC3] at k2
    obtain ⟨a2, e2, f2_0⟩ := op_int Tryz.underlying3 k2
    have k3 : DataW.trod enc Tryz.prog w base sp held n 46 ((([c0, c1, c2, c3, c4, c5, c6, c7, c8, c9, c10, c11, c12, c13, c14, c15, c16, c17, c18] : List Value).drop 18).take (Tryz.prog.cellsOf 46)) = some y3 := hf 3 _ rfl
    rw [hC46] at k3
    obtain ⟨a3X, a3n, a3C, a3r, e3, f3_0⟩ := op_rows Tryz.underlying46 (by kernel_rfl) (by decide) (fun _ _ => oi3) k3
    refine ⟨a0, a1_0, a1_1_0, a1_1_1, a1_1_2, a1_1_3, a1_1_4, a1_1_5X, a1_1_5n, a1_1_5C, a1_1_5r, a1_2_0, a1_2_1, a1_2_2, a1_2_3, a1_2_4, a1_2_5, a1_3, a1_4, a1_5, a2, a3X, a3n, a3C, a3r, ?_, f0_0, f1_0, f1_1, f1_2, f1_3, f1_4, f1_5, f1_6, f1_7, f1_8, f1_9, f1_10, f1_11, f1_12, f1_13, f1_14, f1_15, f2_0, f3_0⟩
    have hh : ([c0, c1, c2, c3, c4, c5, c6, c7, c8, c9, c10, c11, c12, c13, c14, c15, c16, c17, c18] : List Value) = ((([c0, c1, c2, c3, c4, c5, c6, c7, c8, c9, c10, c11, c12, c13, c14, c15, c16, c17, c18] : List Value).drop 0).take 1) ++ ((([c0, c1, c2, c3, c4, c5, c6, c7, c8, c9, c10, c11, c12, c13, c14, c15, c16, c17, c18] : List Value).drop 1).take 16) ++ ((([c0, c1, c2, c3, c4, c5, c6, c7, c8, c9, c10, c11, c12, c13, c14, c15, c16, c17, c18] : List Value).drop 17).take 1) ++ ((([c0, c1, c2, c3, c4, c5, c6, c7, c8, c9, c10, c11, c12, c13, c14, c15, c16, c17, c18] : List Value).drop 18).take 1) := rfl
    rw [hh, e0, e1, e2, e3]
    rfl
end
theorem rows_two : ∀ rows : List (List Int), (∀ r ∈ rows, r.length = 2 ∧ ∀ x ∈ r, i64In x) → ∃ ps : List (Int × Int), ps.length = rows.length ∧ intV rows.flatten = ptsV ps ∧ ∀ p ∈ ps, i64In p.1 ∧ i64In p.2
  | [], _ => ⟨[], rfl, rfl, fun p hp => by cases hp⟩
  | r :: rows, h => by
    obtain ⟨ps, h1, h2, h3⟩ := rows_two rows fun q hq => h q (List.mem_cons_of_mem _ hq)
    obtain ⟨hl, hi⟩ := h r List.mem_cons_self
    match r, hl, hi with
    | [a, b], _, hi =>
      refine ⟨(a, b) :: ps, by simp [h1], ?_, fun p hp => ?_⟩
      · rw [List.flatten_cons, intV_app, h2]; rfl
      · rcases List.mem_cons.1 hp with rfl | hp
        · exact ⟨hi a (by simp), hi b (by simp)⟩
        · exact h3 p hp
theorem rows_one : ∀ rows : List (List Int), (∀ r ∈ rows, r.length = 1 ∧ ∀ x ∈ r, i64In x) → rows.flatten.length = rows.length ∧ ∀ x ∈ rows.flatten, i64In x
  | [], _ => ⟨rfl, fun p hp => by cases hp⟩
  | r :: rows, h => by
    obtain ⟨h1, h3⟩ := rows_one rows fun q hq => h q (List.mem_cons_of_mem _ hq)
    obtain ⟨hl, hi⟩ := h r List.mem_cons_self
    match r, hl, hi with
    | [a], _, hi =>
      refine ⟨by simp [h1], fun p hp => ?_⟩
      rw [List.flatten_cons] at hp
      rcases List.mem_append.1 hp with hp | hp
      · exact hi p hp
      · exact h3 p hp
/-- a command that came in -/
theorem op_cmd {H : Type} {enc : TypeId × Value → H} {w : World} {base : Nat} {sp : Nat → Bool} {held : Bool} {fuel : Nat} {cs : List Value} {x : DataW H × List MemPlace} (h : DataW.trod enc Tryz.prog w base sp held fuel 48 cs = some x) :
    ∃ (c : Cm) (A : Option Addr) (ac : Nat) (M : Option Addr) (mc : Nat), cs = (c.cs A ac M mc).toList ∧ CmIn c ∧ InK w A c.pts.length 2 (ptsV c.pts) ∧ c.pts.length ≤ ac ∧ InK w M c.masks.length 1 (intV c.masks) ∧ c.masks.length ≤ mc := by
  obtain ⟨a0, b0, c0, c1, c2, c3, c4, pX, pn, pC, pr, d0, d1, d2, d3, d4, d5, e3, e4, e5, a2, mX, mn, mC, mr, rfl, -, -, -, -, i2, i3, i4, hP, -, -, i7, i8, -, ia, -, ib, ic, id2, hM⟩ := op48 h
  obtain ⟨ps, p1, p2, p3⟩ := rows_two pr hP.each
  obtain ⟨m1, m2⟩ := rows_one mr hM.each
  have hpn : pn = ps.length := by rw [p1, hP.len]
  have hmn : mn = mr.flatten.length := by rw [m1, hM.len]
  have kp := hP.ink
  have km := hM.ink
  have cp := hP.cap
  have cm := hM.cap
  rw [p2] at kp
  subst hpn hmn
  exact ⟨⟨a0, b0, c0, c1, c2, c3, c4, ps, d0, d1, d2, d3, d4, d5, e3, e4, e5, a2, mr.flatten⟩, pX, pC, mX, mC, rfl,
    ⟨id2, i2, i3, i4, i7, i8, ia, ib, ic, m2, p3⟩, kp, cp, km, cm⟩
end Go.Proofs.YtlnonecibpjcoaaGreatDoor

namespace Go.Proofs.YtlnonecibpjcoaaGreatDoor
open Go.ChangeShapes Go.WideShapes Go.ChangeAt Go.RowKit Go.Joins Go.Shelf
theorem g_D64 : Tryz.prog.globalNamed "math/bits.deBruijn64tab" = some 8 := by kernel_rfl
theorem t_D64 : (Tryz.prog.globals[8]?).map (·.type) = some 572 := by kernel_rfl
theorem cells5 : Tryz.prog.cellsOf 5 = 1 := by kernel_rfl
theorem cells572 : Tryz.prog.cellsOf 572 = 64 := by kernel_rfl
def deb64 : List Int := [0, 1, 56, 2, 57, 49, 28, 3, 61, 58, 42, 50, 38, 29, 17, 4, 62, 47, 59, 36, 45, 43, 51, 22, 53, 39, 33, 30, 24, 18, 12, 5, 63, 55, 48, 27, 60, 41, 37, 16, 46, 35, 44, 21, 52, 32, 23, 11, 54, 26, 40, 15, 34, 20, 31, 10, 25, 14, 19, 9, 13, 8, 7, 6]
theorem deb_of {W : World} (h : laidMetH Tryz.prog laid8 W) : Deb W := by
  rw [MakeChecks.laidMetH_plain _ _ _ laid8_plain] at h
  have h2 := h.tail.tail
  have h3 : Lib.TabIs Tryz.prog W "math/bits.deBruijn64tab" .u8 deb64 := Lib.tabIs_of_head g_D64 t_D64 Tryz.underlying572 Tryz.underlying5 cells5 cells572 h2.tail.tail.tail.tail
  unfold Lib.TabIs World.var? at h3
  rw [g_D64] at h3
  simp only [Option.bind_some] at h3
  unfold Deb World.cell?
  cases hh : W.heap[8]? with
  | none => rw [hh] at h3; cases h3
  | some o =>
    rw [hh] at h3
    cases o with
    | cells cs t f =>
      simp only [Option.some.injEq] at h3
      subst h3
      rfl
    | _ => cases h3
end Go.Proofs.YtlnonecibpjcoaaGreatDoor
