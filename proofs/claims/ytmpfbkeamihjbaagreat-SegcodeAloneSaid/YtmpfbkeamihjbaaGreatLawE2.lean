/- seg.Same of whatever two segments; bytes.HasPrefix at this program. -/
import Derived.Test.YtmpfbkeamihjbaaGreatLawE1
import Derived.Ground.NamesProg
import Derived.Shelf.Lay
import Derived.Shelf.Bytes.SlSmallAll
set_option linter.unusedSimpArgs false
set_option linter.unusedVariables false
namespace Go.Proofs
open Go.Shelf
def Tryz.lays116_ren : Go.Shelf.Ren := ⟨fun | 116 => 23 | 115 => 52 | n => n, fun | 37 => 30 | 4 => 4 | 3 => 3 | 9 => 9 | 5 => 5 | n => n, fun | n => n⟩
theorem Tryz.lays116 : Go.Proofs.Lays.nb116 Tryz.prog Tryz.lays116_ren := {
  mixed := by kernel_rfl
  f115 := Tryz.func52.trans (congrArg some (by kernel_rfl))
  f116 := Tryz.func23.trans (congrArg some (by kernel_rfl))
  t3 := Tryz.underlying3
  a3 := Tryz.isAgg3
  z3 := Tryz.sizeOf3
  v3 := Tryz.zeroValue3
  t4 := Tryz.underlying4
  a4 := Tryz.isAgg4
  z4 := Tryz.sizeOf4
  v4 := Tryz.zeroValue4
  t9 := Tryz.underlying9
  a9 := Tryz.isAgg9
  z9 := Tryz.sizeOf9
  v9 := Tryz.zeroValue9
  t37 := Tryz.underlying30
  a37 := Tryz.isAgg30
  z37 := Tryz.sizeOf30
  v37 := Tryz.zeroValue30
  t5 := Tryz.underlying5
  a5 := Tryz.isAgg5
  z5 := Tryz.sizeOf5
  v5 := Tryz.zeroValue5 }
end Go.Proofs
namespace Go.Proofs.YtmpfbkeamihjbaaGreat
open Go.RowKit
attribute [local go_sem] Oper.semAt_some

theorem line_eql4 (a b c d a' b' c' d' : Int) (w : World) : (binOp .eql 24 (.agg #[.int .i64 a, .int .i64 b, .int .i64 c, .int .i64 d]) (.agg #[.int .i64 a', .int .i64 b', .int .i64 c', .int .i64 d'])).run Tryz.prog w = .ok (.bool (decide (a = a' ∧ b = b' ∧ c = c' ∧ d = d'))) w := by
  by_cases h1 : a = a' <;> by_cases h2 : b = b' <;> by_cases h3 : c = c' <;> by_cases h4 : d = d'
  all_goals go_simp
section
variable (RA RB VA VB : Option Addr) (rc rd vc vd : Nat) (l l' : List Rn) (vs vs' : List Int) (kd A R N D er kd' A' R' N' D' er' : Int) (w : World) (hR : RR w RA rc l) (hS : RR w RB rd l') (hV : VR w VA vc vs) (hU : VR w VB vd vs')
include hR hS hV hU in
set_option maxRecDepth 100000 in
set_option maxHeartbeats 4000000 in
theorem seg_Same : Calls Tryz.prog 22 #[.agg #[.int .i64 kd, .slice RA l.length rc, .int .i64 A, .int .i64 R, .int .i64 N, .int .i64 D, .slice VA vs.length vc, .int .i64 er], .agg #[.int .i64 kd', .slice RB l'.length rd, .int .i64 A', .int .i64 R', .int .i64 N', .int .i64 D', .slice VB vs'.length vd, .int .i64 er']] w fun e w' => e = .returned (.bool (decide ((⟨kd, l, ⟨A, R, N, D⟩, vs, er⟩ : Sg) = ⟨kd', l', ⟨A', R', N', D'⟩, vs', er'⟩))) ∧ Below w.heap.size w w' := by
  have ed : decide ((⟨kd, l, ⟨A, R, N, D⟩, vs, er⟩ : Sg) = ⟨kd', l', ⟨A', R', N', D'⟩, vs', er'⟩) = (decide (kd = kd') && (decide (A = A' ∧ R = R' ∧ N = N' ∧ D = D') && (decide (er = er') && (decide (l = l') && decide (vs = vs'))))) := by
    rw [Bool.eq_iff_iff]
    simp only [Bool.and_eq_true, decide_eq_true_eq, Sg.mk.injEq, L4.mk.injEq]
    constructor
    · rintro ⟨h1, h2, ⟨h3, h4, h5, h6⟩, h7, h8⟩
      exact ⟨h1, ⟨h3, h4, h5, h6⟩, h8, h2, h7⟩
    · rintro ⟨h1, ⟨h3, h4, h5, h6⟩, h8, h2, h7⟩
      exact ⟨h1, h2, ⟨h3, h4, h5, h6⟩, h7, h8⟩
  rw [ed]
  clear ed
  have c1 := fun w hR hS => equal_runss RA RB rc rd l l' w hR hS
  have c2 := fun w hV hU => equal_longs VA VB vc vd vs vs' w hV hU
  have hq := fun w => line_eql4 A R N D A' R' N' D' w
  generalize decide (A = A' ∧ R = R' ∧ N = N' ∧ D = D') = bq at *
  generalize decide (l = l') = bl at *
  generalize decide (vs = vs') = bv at *
  obtain ⟨n, hn⟩ : ∃ n, n = l.length := ⟨_, rfl⟩
  obtain ⟨n', hn'⟩ : ∃ n, n = l'.length := ⟨_, rfl⟩
  obtain ⟨m, hm⟩ : ∃ n, n = vs.length := ⟨_, rfl⟩
  obtain ⟨m', hm'⟩ : ∃ n, n = vs'.length := ⟨_, rfl⟩
  rw [← hn, ← hn'] at c1
  rw [← hm, ← hm'] at c2
  rw [← hn, ← hn', ← hm, ← hm']
  clear hn hn' hm hm'
  go_enter Tryz.func22, Tryz.ntmps22
  by_cases h1 : kd = kd'
  · have e1 : (kd == kd') = true := by simp [h1]
    rw [decide_eq_true h1]
    clear h1
    cases bq
    · go_wp2
      go_ret
      exact ⟨by simp, (bA (bA (b0 w) (.cells #[.int .i64 kd, .slice RA n rc, .int .i64 A, .int .i64 R, .int .i64 N, .int .i64 D, .slice VA m vc, .int .i64 er] 27)) (.cells #[.int .i64 kd', .slice RB n' rd, .int .i64 A', .int .i64 R', .int .i64 N', .int .i64 D', .slice VB m' vd, .int .i64 er'] 27))⟩
    · skip
      by_cases h3 : er = er'
      · have e3 : (er == er') = true := by simp [h3]
        rw [decide_eq_true h3]
        clear h3
        go_wp2_with fail
        refine (c1 _ (hR.below (bA (bA (b0 _) (.cells #[.int .i64 kd, .slice RA n rc, .int .i64 A, .int .i64 R, .int .i64 N, .int .i64 D, .slice VA m vc, .int .i64 er] 27)) (.cells #[.int .i64 kd', .slice RB n' rd, .int .i64 A', .int .i64 R', .int .i64 N', .int .i64 D', .slice VB m' vd, .int .i64 er'] 27))) (hS.below (bA (bA (b0 _) (.cells #[.int .i64 kd, .slice RA n rc, .int .i64 A, .int .i64 R, .int .i64 N, .int .i64 D, .slice VA m vc, .int .i64 er] 27)) (.cells #[.int .i64 kd', .slice RB n' rd, .int .i64 A', .int .i64 R', .int .i64 N', .int .i64 D', .slice VB m' vd, .int .i64 er'] 27)))).mono ?_
        rintro e w1 ⟨rfl, hb1⟩
        have f_s1 := kp hb1 (ka (na w #[.int .i64 kd, .slice RA n rc, .int .i64 A, .int .i64 R, .int .i64 N, .int .i64 D, .slice VA m vc, .int .i64 er] 27) (.cells #[.int .i64 kd', .slice RB n' rd, .int .i64 A', .int .i64 R', .int .i64 N', .int .i64 D', .slice VB m' vd, .int .i64 er'] 27))
        have f_t1 := kp hb1 (na1 w (.cells #[.int .i64 kd, .slice RA n rc, .int .i64 A, .int .i64 R, .int .i64 N, .int .i64 D, .slice VA m vc, .int .i64 er] 27) #[.int .i64 kd', .slice RB n' rd, .int .i64 A', .int .i64 R', .int .i64 N', .int .i64 D', .slice VB m' vd, .int .i64 er'] 27)
        have rd_l1 := (hR.below (bA (bA (b0 _) (.cells #[.int .i64 kd, .slice RA n rc, .int .i64 A, .int .i64 R, .int .i64 N, .int .i64 D, .slice VA m vc, .int .i64 er] 27)) (.cells #[.int .i64 kd', .slice RB n' rd, .int .i64 A', .int .i64 R', .int .i64 N', .int .i64 D', .slice VB m' vd, .int .i64 er'] 27))).below hb1
        have rd_m1 := (hS.below (bA (bA (b0 _) (.cells #[.int .i64 kd, .slice RA n rc, .int .i64 A, .int .i64 R, .int .i64 N, .int .i64 D, .slice VA m vc, .int .i64 er] 27)) (.cells #[.int .i64 kd', .slice RB n' rd, .int .i64 A', .int .i64 R', .int .i64 N', .int .i64 D', .slice VB m' vd, .int .i64 er'] 27))).below hb1
        have rd_v1 := (hV.below (bA (bA (b0 _) (.cells #[.int .i64 kd, .slice RA n rc, .int .i64 A, .int .i64 R, .int .i64 N, .int .i64 D, .slice VA m vc, .int .i64 er] 27)) (.cells #[.int .i64 kd', .slice RB n' rd, .int .i64 A', .int .i64 R', .int .i64 N', .int .i64 D', .slice VB m' vd, .int .i64 er'] 27))).below hb1
        have rd_u1 := (hU.below (bA (bA (b0 _) (.cells #[.int .i64 kd, .slice RA n rc, .int .i64 A, .int .i64 R, .int .i64 N, .int .i64 D, .slice VA m vc, .int .i64 er] 27)) (.cells #[.int .i64 kd', .slice RB n' rd, .int .i64 A', .int .i64 R', .int .i64 N', .int .i64 D', .slice VB m' vd, .int .i64 er'] 27))).below hb1
        have hB1 := bB (bA (bA (b0 w) (.cells #[.int .i64 kd, .slice RA n rc, .int .i64 A, .int .i64 R, .int .i64 N, .int .i64 D, .slice VA m vc, .int .i64 er] 27)) (.cells #[.int .i64 kd', .slice RB n' rd, .int .i64 A', .int .i64 R', .int .i64 N', .int .i64 D', .slice VB m' vd, .int .i64 er'] 27)) hb1
        obtain ⟨zs_a, zs_b, ls1⟩ := rcell f_s1
        obtain ⟨zt_a, zt_b, lt1⟩ := rcell f_t1
        cases bl
        · go_wp2
          go_ret
          exact ⟨by simp, hB1⟩
        · go_wp2_with fail
          refine (c2 _ rd_v1 rd_u1).mono ?_
          rintro e w2 ⟨rfl, hb2⟩
          have f_s2 := kp hb2 (f_s1)
          have f_t2 := kp hb2 (f_t1)
          have rd_l2 := rd_l1.below hb2
          have rd_m2 := rd_m1.below hb2
          have rd_v2 := rd_v1.below hb2
          have rd_u2 := rd_u1.below hb2
          have hB2 := bB hB1 hb2
          clear zs_a zs_b zt_a zt_b
          obtain ⟨zs_a, zs_b, ls2⟩ := rcell f_s2
          obtain ⟨zt_a, zt_b, lt2⟩ := rcell f_t2
          go_wp2
          go_ret
          exact ⟨by simp, hB2⟩
      · skip
        have e3 : (er == er') = false := by simp [h3]
        go_wp2
        go_ret
        exact ⟨by simp [h3], (bA (bA (b0 w) (.cells #[.int .i64 kd, .slice RA n rc, .int .i64 A, .int .i64 R, .int .i64 N, .int .i64 D, .slice VA m vc, .int .i64 er] 27)) (.cells #[.int .i64 kd', .slice RB n' rd, .int .i64 A', .int .i64 R', .int .i64 N', .int .i64 D', .slice VB m' vd, .int .i64 er'] 27))⟩
  · skip
    have e1 : (kd == kd') = false := by simp [h1]
    go_wp2
    go_ret
    exact ⟨by simp [h1], (bA (bA (b0 w) (.cells #[.int .i64 kd, .slice RA n rc, .int .i64 A, .int .i64 R, .int .i64 N, .int .i64 D, .slice VA m vc, .int .i64 er] 27)) (.cells #[.int .i64 kd', .slice RB n' rd, .int .i64 A', .int .i64 R', .int .i64 N', .int .i64 D', .slice VB m' vd, .int .i64 er'] 27))⟩
end

theorem YR.bytesIn {w : World} {A : Option Addr} {c : Nat} {l : List Int} (h : YR w A c l) : Lib.BytesIn w A l.length l := fun hn => by
  obtain ⟨g, o, cur, rfl, hg, hc⟩ := h.mem hn
  refine ⟨g, o, rfl, fun i hi => ?_⟩
  have := (cell_of_row w g (o + i) cur 5 (0, 0) hg).trans (hc i hi)
  rw [this]
  simp [List.getD, hi]
/-- bytes.HasPrefix -/
theorem has_prefix (A B : Option Addr) (c d : Nat) (xs ys : List Int) (w : World) (hR : YR w A c xs) (hS : YR w B d ys) :
    Calls Tryz.prog 23 #[.slice A xs.length c, .slice B ys.length d] w fun e w' => e = .returned (.bool (Lib.hasPrefix (Lib.bytesOf xs) (Lib.bytesOf ys))) ∧ w' = w := by
  have h := Any.bytes_HasPrefix_all Tryz.lays116 A B xs.length c ys.length d xs ys w rfl rfl hR.cap hR.bytesIn hS.bytesIn
  exact h
theorem prefix_bytes {xs ys : List Int} (hx : Byt xs) (hy : Byt ys) (h : Lib.hasPrefix (Lib.bytesOf xs) (Lib.bytesOf ys) = true) : ∃ r, xs = ys ++ r := by
  induction ys generalizing xs with
  | nil => exact ⟨xs, rfl⟩
  | cons y ys ih =>
    cases xs with
    | nil => simp [Lib.hasPrefix, Lib.bytesOf] at h
    | cons x xs =>
      simp only [Lib.hasPrefix, Lib.bytesOf, List.map_cons, List.isPrefixOf, Bool.and_eq_true, beq_iff_eq] at h
      obtain ⟨h1, h2⟩ := h
      have bx := hx x List.mem_cons_self
      have by' := hy y List.mem_cons_self
      obtain ⟨r, hr⟩ := ih (fun z hz => hx z (List.mem_cons_of_mem _ hz)) (fun z hz => hy z (List.mem_cons_of_mem _ hz)) h2
      refine ⟨r, ?_⟩
      have e : x = y := by
        have := congrArg UInt8.toNat h1
        simp only [UInt8.toNat_ofNat'] at this
        omega
      rw [hr, e]
      rfl
end Go.Proofs.YtmpfbkeamihjbaaGreat
