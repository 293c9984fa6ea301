/- console.pages of the first lines that the law makes. ConsoleWrong: the walk of the law. -/
import Derived.Test.YtbiedfkmmcaplaaGreatDoorTb
import Derived.Test.YtbiedfkmmcaplaaGreatDoorQi
import Derived.Test.YtbiedfkmmcaplaaGreatDoorRf
import Derived.Test.YtbiedfkmmcaplaaGreatDoorKE
set_option linter.all false
namespace Go.Proofs.Tryz
open Go.Proofs.Ex Go.RowKit Go.Proofs.YtbiedfkmmcaplaaGreatDoor

def out1 (v : Value) (r : Option (Value × Tr AO × Nat)) : Bool := match r with
  | some (v1, _, _) => eqV v v1
  | none => false
theorem out1_ex {v : Value} {r : Option (Value × Tr AO × Nat)} (h : out1 v r = true) : ∃ nx, outB v .nil nx r = true := by
  cases r with
  | none => cases h
  | some x =>
    obtain ⟨v1, h1, nx⟩ := x
    refine ⟨nx, ?_⟩
    have h : eqV v v1 = true := h
    simp [outB, h, covT]
theorem pg0_run : out1 (.int .i64 24) (runA prog xL6 25 [.string (pgB 0)] 20000) = true := by kernel_rfl
theorem pg1_run : out1 (.int .i64 40) (runA prog xL6 25 [.string (pgB 1)] 20000) = true := by kernel_rfl
theorem pg2_run : out1 (.int .i64 256) (runA prog xL6 25 [.string (pgB 2)] 20000) = true := by kernel_rfl
theorem pages_of {b : ByteArray} {z : Int} (h : out1 (.int .i64 z) (runA prog xL6 25 [.string b] 20000) = true) (W : World) (hL : Laid W) : Calls prog 25 #[.string b] W fun e w' => e = .returned (.int .i64 z) ∧ Below W.heap.size W w' := by
  obtain ⟨nx, hn⟩ := out1_ex h
  exact runCalls xfollows xL6_ok hn (LIs.cons (Is.closed rfl) LIs.nil) (Is.closed rfl) W ⟨hL, fun k hk => laid_lt hL k hk⟩
theorem con_pages {g0 : ByteArray} (h : g0 = pgB 0 ∨ g0 = pgB 1 ∨ g0 = pgB 2) : ∃ z : Int, z ≠ 0 ∧ ∀ W, Laid W → Calls prog 25 #[.string g0] W fun e w' => e = .returned (.int .i64 z) ∧ Below W.heap.size W w' := by
  rcases h with rfl | rfl | rfl
  · exact ⟨24, by decide, pages_of pg0_run⟩
  · exact ⟨40, by decide, pages_of pg1_run⟩
  · exact ⟨256, by decide, pages_of pg2_run⟩
end Go.Proofs.Tryz

namespace Go.Proofs.YtbiedfkmmcaplaaGreatDoor
open Go.RowKit
attribute [local go_sem] Oper.semAt_some

theorem extract_sz (s : ByteArray) (m : Nat) (h : m ≤ s.size) : (s.extract 0 m).size = m := by
  rw [ByteArray.size_extract]; omega
theorem pgB_no {g0 : ByteArray} (h : g0 = pgB 0 ∨ g0 = pgB 1 ∨ g0 = pgB 2) : (10 : UInt8) ∉ g0.data.toList := by
  rcases h with rfl | rfl | rfl <;> decide
theorem pLine_empty : pLine ⟨#[]⟩ = none := by
  kernel_rfl
theorem made_last {g0 : ByteArray} {ls : List ByteArray} (h : MadeOK g0 ls) {L : ByteArray} (hL : (10 : UInt8) ∉ L.data.toList) (h0 : L.size ≠ 0) :
    linesB (textOf (g0 :: ls) ⟨#[]⟩ ++ L) = (g0 :: ls).map (fun l => (l, true)) ++ (L, false) :: [] := by
  rw [textOf_app, linesB_text L h0 _ (fun l hl => by
    rcases List.mem_cons.1 hl with rfl | hl
    · exact pgB_no h.g
    · exact (h.good l hl).2.2)]
  rw [linesB_cut (cutB_not L hL)]
  rfl
theorem made_more {g0 : ByteArray} {ls : List ByteArray} (h : MadeOK g0 ls) {L B : ByteArray} (hL : (10 : UInt8) ∉ L.data.toList) :
    ∃ more, linesB (textOf (g0 :: ls) ⟨#[]⟩ ++ L ++ ⟨#[10]⟩ ++ B) = (g0 :: ls).map (fun l => (l, true)) ++ (L, true) :: more := by
  have e : textOf (g0 :: ls) ⟨#[]⟩ ++ L ++ ⟨#[10]⟩ ++ B = textOf (g0 :: ls) (L ++ ⟨#[10]⟩ ++ B) := by
    rw [← textOf_app (L ++ ⟨#[10]⟩ ++ B)]
    apply ByteArray.ext
    simp
  have hne : (L ++ ⟨#[10]⟩ ++ B).size ≠ 0 := by
    simp only [ByteArray.size_append]
    have : (⟨#[10]⟩ : ByteArray).size = 1 := rfl
    omega
  rw [e, linesB_text _ hne _ (fun l hl => by
    rcases List.mem_cons.1 hl with rfl | hl
    · exact pgB_no h.g
    · exact (h.good l hl).2.2), linesB_cut (cutB_at L B hL)]
  exact ⟨_, rfl⟩
theorem made_count {g0 : ByteArray} {ls : List ByteArray} (h : MadeOK g0 ls) : (textOf (g0 :: ls) ⟨#[]⟩).data.toList.count 10 = ls.length + 1 := by
  rw [textOf_count _ (fun l hl => by
    rcases List.mem_cons.1 hl with rfl | hl
    · exact pgB_no h.g
    · exact (h.good l hl).2.2)]
  rfl

set_option maxRecDepth 100000 in
set_option maxHeartbeats 16000000 in
theorem law_Wrong (pg : Int) (cs : List Cm) (X : Option Addr) (C : Nat) (s b : ByteArray) (w : World) (hL : Laid w) (hD : Deb w) (hR : CmRow w X cs) (hI : ∀ c ∈ cs, CmIn c) (hn : cs.length ≤ 9223372036854775807) :
    Calls Tryz.prog 3 #[.int .i64 pg, .slice X cs.length C, .string s, .string b] w fun e w' => e = .returned (.bool true) ∧ Below w.heap.size w w' := by
  obtain ⟨m, hm⟩ : ∃ m : Nat, m = min s.size 300 := ⟨_, rfl⟩
  have e1 : min (s.size : Int) 300 = (m : Int) := by omega
  obtain ⟨L, hLn⟩ : ∃ L, L = s.extract 0 m := ⟨_, rfl⟩
  have hLs : L.size ≤ 300 := by rw [hLn, extract_sz s m (by omega)]; omega
  obtain ⟨q, hq⟩ : ∃ q : Nat, q = min b.size 300 := ⟨_, rfl⟩
  have e2 : min (b.size : Int) 300 = (q : Int) := by omega
  obtain ⟨B, hBn⟩ : ∃ B, B = b.extract 0 q := ⟨_, rfl⟩
  have hBs : B.size ≤ 300 := by rw [hBn, extract_sz b q (by omega)]; omega
  have HLN := hide hLn
  have HBN := hide hBn
  have HL := hide (fun W (hb : Below w.heap.size w W) => hL.below hb)
  have HMD := hide (fun W (hb : Below w.heap.size w W) => con_made pg cs X C W (hL.below hb) (hD.below hb) (hR.below hb) hI hn)
  have cw := Tryz.wakes31 w hL
  have hzc := zCmd_size
  have hz1 := zCmd_one
  clear hm hq hLn hBn hL hD hR hI
  go_enter Tryz.func3, Tryz.ntmps3
  go_wp2_with fail
  refine cw.mono ?_
  rintro e w3 ⟨rfl, hb3⟩
  have HB3 := hide hb3
  clear cw hb3
  go_wp2_with fail
  refine (HMD.out w3 HB3.out).mono ?_
  rintro e w4 ⟨g0, ls, rfl, hmo, hb4⟩
  have HB4 := hide (bB HB3.out hb4)
  have HMO := hide hmo
  obtain ⟨T, hT⟩ : ∃ T, T = textOf (g0 :: ls) ⟨#[]⟩ := ⟨_, rfl⟩
  rw [← hT]
  have HT := hide hT
  obtain ⟨N, hN⟩ : ∃ N : Int, N = (ls.length : Int) := ⟨_, rfl⟩
  rw [← hN]
  have HN := hide hN
  have hTs : T.size ≤ 64536 := by rw [hT]; exact hmo.size
  have hN0 : 0 ≤ N := by omega
  have hN1 : N ≤ 40 := by have := hmo.len; omega
  have hA1 : (T ++ L).size ≤ 64836 := by rw [ByteArray.size_append]; omega
  have hA2 : (T ++ L ++ ⟨#[10]⟩).size ≤ 64837 := by
    rw [ByteArray.size_append]
    have h2 : (⟨#[10]⟩ : ByteArray).size = 1 := rfl
    omega
  have HA1 := hide hA1
  have HA2 := hide hA2
  clear hb4 hmo hT hN HMD
  go_wp2_with fail
  rw [← HLN.out]
  have cC : Calls Tryz.prog 6 #[.string L, .string ⟨#[10]⟩] w4 fun e w' => e = .returned (.bool (Lib.contains L.data.toList [10])) ∧ w' = w4 := by
    obtain ⟨m0, hm0⟩ := (HL.out w4 HB4.out).mx
    exact Tryz.strings_Contains L ⟨#[10]⟩ m0 w4 (by omega) hm0
  cases hct : Lib.contains L.data.toList [10]
  · rw [hct] at cC
    have HNL := hide (not_lf hct)
    refine cC.mono ?_
    rintro e w5 ⟨rfl, hw⟩
    rw [hw]
    clear hw w5 cC hct
    go_wp2_with fail
    refine (con_Parse L (by omega) w4 (HL.out _ HB4.out)).mono ?_
    rintro e wP hpP
    cases hpl : pLine L with
    | none =>
      simp only [hpl] at hpP
      obtain ⟨rfl, hbP⟩ := hpP
      have HBP := hide (bB HB4.out hbP)
      have HPL := hide hpl
      clear hbP hpl
      go_wp2_with (refine wpList_storeW rfl _ _ _ rfl wP.heap.size 38 _ zCmd rfl rfl (na wP zCmd 38) (by rw [size48, hzc]) (by first | rfl | (rw [hzc]; rfl)) hz1 ?_; simp only [Act.put]; generalize hTQ : setRow _ _ _ = wQ; obtain ⟨hxQ, -⟩ := fin_x (b0 _) (na wP zCmd 38) hTQ; have HBQ := hide (bB HBP.out (bX (bA (b0 wP) (.cells zCmd 38)) hxQ (Nat.le_refl _))); clear hTQ hxQ)
      rw [← HBN.out]
      obtain ⟨more, hmore⟩ := made_more HMO.out HNL.out (B := B)
      obtain ⟨zn, hz, hpg⟩ := Tryz.con_pages HMO.out.g
      have cR := con_Run_wrong (T ++ L ++ ⟨#[10]⟩ ++ B) (by
        have h1 := HMO.out.size
        rw [← HT.out] at h1
        simp only [ByteArray.size_append]
        have h2 : (⟨#[10]⟩ : ByteArray).size = 1 := rfl
        omega) g0 L ls true more (by rw [HT.out]; exact hmore) (by have := HMO.out.len; omega) zn hz hpg (fun l hl => ⟨(HMO.out.good l hl).1, (HMO.out.good l hl).2.1⟩) (.inr ⟨by omega, HPL.out⟩) wQ (HL.out _ HBQ.out)
      rw [show ((ls.length + 1 + 1 : Nat) : Int) = N + 2 by have := HN.out; omega] at cR
      clear hmore hz hpg
      refine cR.mono ?_
      rintro e wR ⟨rfl, hbR⟩
      have HBR := hide (bB HBQ.out hbR)
      clear cR hbR
      go_wp2_with fail
      go_ret
      exact ⟨rfl, HBR.out⟩
    | some d =>
      simp only [hpl] at hpP
      obtain ⟨v, rfl, hkd, hbP⟩ := hpP
      obtain ⟨AD, acD, MD, mcD, rfl, -, -⟩ := hkd.k
      obtain ⟨Z, hZ⟩ : ∃ Z, Z = d.cs AD acD MD mcD := ⟨_, rfl⟩
      have hZs : Z.size = 19 := by rw [hZ]; rfl
      have hZ1 : Z.all (·.oneCell') = true := by rw [hZ]; exact cmd_cells _ _ _ _ _
      rw [← hZ]
      have HBP := hide (bB HB4.out hbP)
      have HPL : Hid (L.size ≠ 0) := hide (fun h0 : L.size = 0 => by
        have e0 : L = ⟨#[]⟩ := by
          apply ByteArray.ext
          exact Array.eq_empty_of_size_eq_zero h0
        rw [e0, pLine_empty] at hpl
        cases hpl)
      clear hbP hZ hkd hpl
      go_wp2_with (refine wpList_storeW rfl _ _ _ rfl wP.heap.size 38 _ Z rfl rfl (na wP zCmd 38) (by rw [size48, hZs]) (by first | rfl | (rw [hZs]; rfl)) hZ1 ?_; simp only [Act.put]; generalize hTQ : setRow _ _ _ = wQ; obtain ⟨hxQ, -⟩ := fin_x (b0 _) (na wP zCmd 38) hTQ; have HBQ := hide (bB HBP.out (bX (bA (b0 wP) (.cells zCmd 38)) hxQ (Nat.le_refl _))); clear hTQ hxQ)
      obtain ⟨zn, hz, hpg⟩ := Tryz.con_pages HMO.out.g
      have cR := con_Run_wrong (T ++ L) (by
        have h1 := HMO.out.size
        rw [← HT.out] at h1
        simp only [ByteArray.size_append]
        omega) g0 L ls false [] (by rw [HT.out]; exact made_last HMO.out HNL.out HPL.out) (by have := HMO.out.len; omega) zn hz hpg (fun l hl => ⟨(HMO.out.good l hl).1, (HMO.out.good l hl).2.1⟩) (.inl rfl) wQ (HL.out _ HBQ.out)
      rw [show ((ls.length + 1 + 1 : Nat) : Int) = N + 2 by have := HN.out; omega] at cR
      clear hz hpg
      refine cR.mono ?_
      rintro e wR ⟨rfl, hbR⟩
      have HBR := hide (bB HBQ.out hbR)
      clear cR hbR
      go_wp2_with fail
      go_ret
      exact ⟨rfl, HBR.out⟩
  · rw [hct] at cC
    refine cC.mono ?_
    rintro e w5 ⟨rfl, hw⟩
    rw [hw]
    clear hw w5 cC hct
    have cN := Tryz.strings_Count_one T 10 w4
    have hcn : (Lib.countByte T.data.toList 10 : Int) = N + 1 := by
      have h1 := made_count HMO.out
      rw [← HT.out] at h1
      have h2 := HN.out
      unfold Lib.countByte
      omega
    rw [hcn] at cN
    clear hcn
    go_wp2_with fail
    refine cN.mono ?_
    rintro e w5 ⟨rfl, hw⟩
    rw [hw]
    clear hw w5 cN
    go_wp2_with fail
    go_ret
    exact ⟨rfl, HB4.out⟩
end Go.Proofs.YtbiedfkmmcaplaaGreatDoor
