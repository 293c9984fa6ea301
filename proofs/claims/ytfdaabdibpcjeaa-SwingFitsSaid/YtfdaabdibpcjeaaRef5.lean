/- yearbookref01 at this program: times, parts. -/
import Derived.Test.YtfdaabdibpcjeaaRef4
set_option linter.unusedSimpArgs false
set_option linter.unusedVariables false
namespace Go.Proofs.Ytfdaabdibpcjeaa
open Go.RowKit

theorem drop_le (l : List Nat) (k : Nat) : bv (l.drop k) ≤ bv l := by
  by_cases hk : k ≤ l.length
  · rw [bv_split l k hk]
    have : bv (l.drop k) * 1 ≤ bv (l.drop k) * 2 ^ k := Nat.mul_le_mul_left _ (Nat.one_le_two_pow)
    rw [Nat.mul_comm (bv (l.drop k)) (2 ^ k)] at this
    omega
  · rw [List.drop_eq_nil_of_le (by omega)]; simp [bv]
theorem bv_one (x : Nat) (l : List Nat) : bv ([x] ++ l) = x + 2 * bv l := rfl

set_option maxRecDepth 100000 in
set_option maxHeartbeats 2000000 in
theorem ref_times (x y M : Nat) (A B : Option Addr) (c d : Nat) (hM : M ≤ 900) (hxy : x * y < 2 ^ M) (hx : (sz x).length ≤ 900) (hy : (sz y).length ≤ 900) (w : World) (ha : Rd w A c (sz x)) (hb : Rd w B d (sz y)) :
    Calls Try.prog 88 #[.slice A (sz x).length c, .slice B (sz y).length d] w (GivesSz (x * y) w) := by
  obtain ⟨b, eb⟩ : ∃ b, b = sz y := ⟨_, rfl⟩
  have hy2 : bv b = y := by rw [eb, bv_sz]
  have bb : Bin b := by rw [eb]; exact Bin.sz y
  rw [← eb] at hb hy ⊢
  clear eb
  subst hy2
  obtain ⟨m, hm⟩ : ∃ m, b.length = m := ⟨_, rfl⟩
  rw [hm] at hy ⊢
  have HK := hide hm
  have HXY := hide hxy
  clear hm hxy
  go_enter Try.func88, Try.ntmps88
  go_wp2
  go_loopw [5, 6] (fun vo vi wr => ∃ (k : Nat) (i : Int) (Ao : Option Addr) (co P : Nat), vi = .int .i64 i ∧ i = (k : Int) - 1 ∧ k ≤ m ∧ vo = .slice Ao (sz P).length co ∧ P = x * bv (b.drop k) ∧ Rd wr Ao co (sz P) ∧ Below w.heap.size w wr) (fun _ vi _ => (intOf vi + 1).toNat)
  case atStart => exact ⟨m, _, none, 0, 0, rfl, rfl, Nat.le_refl _, by rw [sz_zero]; rfl, by rw [List.drop_eq_nil_of_le (by rw [HK.out]; exact Nat.le_refl _)]; simp [bv], by rw [sz_zero]; exact Rd.nil _ _ _, b0 w⟩
  case round =>
    obtain ⟨k, i, Ao, co, P, rfl, hi, hk, rfl, hP, hr, hb0⟩ := hrel
    by_cases h0 : k = 0
    · subst h0
      obtain rfl : i = -1 := by omega
      rw [List.drop_zero] at hP
      clear hi
      have HP := hide hP
      clear hP
      go_wp2
      go_ret
      rw [HP.out] at hr ⊢
      exact ⟨Ao, co, rfl, hb0, hr⟩
    · obtain ⟨j, rfl⟩ : ∃ j, k = j + 1 := ⟨k - 1, by omega⟩
      obtain rfl : i = (j : Int) := by omega
      clear hi
      have hjb : j < b.length := by rw [HK.out]; omega
      obtain ⟨gb, rfl, hcb⟩ := (hb.below hb0).at_ (k := j) hjb
      have hd := bv_drop b j hjb
      have hd2 := drop_le b j
      have K2 := bb.get hjb
      obtain ⟨q, hq⟩ : ∃ q, b[j] = q := ⟨_, rfl⟩
      rw [hq] at hd K2 hcb
      have HQ := hide hq
      clear hq
      have e1 : x * bv (b.drop j) = x * q + 2 * P := by rw [hd, hP, Nat.mul_add, Nat.mul_left_comm]
      have e2 : x * bv (b.drop j) ≤ x * bv b := Nat.mul_le_mul_left _ hd2
      have hlt : x * bv (b.drop j) < 2 ^ M := by have := HXY.out; omega
      have lP : (sz P).length ≤ 900 := Nat.le_trans (sz_len_lt (k := M) (by omega)) hM
      have EP := hide e1
      have HLT := hide hlt
      clear hd hd2 hP e1 e2 hlt
      obtain ⟨l1, hl1⟩ : ∃ l1, [0] ++ sz P = l1 := ⟨_, rfl⟩
      have bl1 : Bin l1 := by rw [← hl1]; exact Bin.append (Bin.cons (by decide) Bin.nil) (Bin.sz P)
      have vl1 : bv l1 = 2 * P := by rw [← hl1, bv_one, bv_sz]; omega
      have ll1 : l1.length ≤ 4096 := by rw [← hl1]; simp; omega
      have k1 : [0].length + (sz P).length ≤ 4096 := by simp; omega
      have HL1 := hide hl1
      have VL1 := hide vl1
      clear hl1 vl1
      go_wp2_with (at_builtin; refine wpList_push rfl _ _ rfl wr.heap.size _ [0] (sz P) _ _ rfl rfl (Own.oneI _ _ _ rfl) (hr.below (bA (b0 _) _)) k1 (bA (b0 _) _).size ?_; intro v1 w1 ho1 hb1 hs1)
      rw [HL1.out] at ho1
      obtain ⟨A1, c1, rfl, hr1⟩ := ho1.rd
      have hB1 := bB hb0 (hb1 wr (bA (b0 _) _))
      have CT := ref_trim A1 c1 l1 bl1 ll1 _ hr1
      rw [VL1.out] at CT
      refine CT.mono ?_
      rintro e w2 ⟨A2, c2, rfl, hb2, hr2⟩
      have hB2 := bB hB1 hb2
      obtain ⟨g2, hg2, hcb2⟩ := (hb.below hB2).at_ (k := j) hjb
      obtain rfl : gb = g2 := by simpa using hg2
      rw [HQ.out] at hcb2
      have ha2 := ha.below hB2
      clear hg2 HQ hcb hjb
      rcases (show q = 0 ∨ q = 1 by omega) with rfl | rfl
      · have E2 : Hid (2 * P = x * bv (b.drop j)) := by have := EP.out; rw [Hid]; omega
        go_wp2
        go_roundw
        case rel => exact ⟨j, _, A2, c2, 2 * P, rfl, rfl, by omega, rfl, E2.out, hr2, hB2⟩
        case measure => simp [intOf]
      · have E2 : Hid (2 * P + x = x * bv (b.drop j)) := by have := EP.out; rw [Hid]; omega
        have CP := ref_plus (2 * P) x M A2 A c2 c (by omega) (by rw [E2.out]; exact HLT.out) _ hr2 ha2
        go_wp2_with fail
        refine CP.mono ?_
        rintro e w3 ⟨A3, c3, rfl, hb3, hr3⟩
        go_wp2
        go_roundw
        case rel => exact ⟨j, _, A3, c3, 2 * P + x, rfl, rfl, by omega, rfl, E2.out, hr3, bB hB2 hb3⟩
        case measure => simp [intOf]

/-- what two functions of digits hand back -/
def Gives2 (q r : Nat) (w : World) (e : Ending) (w' : World) : Prop := ∃ A c A' c', e = .returned (.tuple #[.slice A (sz q).length c, .slice A' (sz r).length c']) ∧ Below w.heap.size w w' ∧ Rd w' A c (sz q) ∧ Rd w' A' c' (sz r)

set_option maxRecDepth 100000 in
set_option maxHeartbeats 2000000 in
theorem ref_parts (x y : Nat) (A B : Option Addr) (c d : Nat) (hx : (sz x).length ≤ 900) (hy : (sz y).length ≤ 900) (hy0 : 0 < y) (w : World) (ha : Rd w A c (sz x)) (hb : Rd w B d (sz y)) :
    Calls Try.prog 79 #[.slice A (sz x).length c, .slice B (sz y).length d] w (Gives2 (x / y) (x % y) w) := by
  obtain ⟨a, ea⟩ : ∃ a, a = sz x := ⟨_, rfl⟩
  have hx2 : bv a = x := by rw [ea, bv_sz]
  have ba : Bin a := by rw [ea]; exact Bin.sz x
  rw [← ea] at ha hx ⊢
  clear ea
  subst hx2
  obtain ⟨m, hm⟩ : ∃ m, a.length = m := ⟨_, rfl⟩
  rw [hm] at hx ⊢
  have HK := hide hm
  clear hm
  go_enter Try.func79, Try.ntmps79
  go_wp2
  go_loopw [6, 7, 8] (fun vq vo vi wr => ∃ (k : Nat) (i : Int) (Ao : Option Addr) (co R : Nat) (Aq : Option Addr) (cq : Nat) (q : List Nat), vi = .int .i64 i ∧ i = (k : Int) - 1 ∧ k ≤ m ∧ vo = .slice Ao (sz R).length co ∧ vq = .slice Aq q.length cq ∧ Rd wr Ao co (sz R) ∧ Rd wr Aq cq q ∧ Bin q ∧ Hid (q.length = m - k ∧ bv (a.drop k) = bv q * y + R) ∧ R < y ∧ Below w.heap.size w wr) (fun _ _ vi _ => (intOf vi + 1).toNat)
  case atStart => exact ⟨m, _, none, 0, 0, none, 0, [], rfl, rfl, Nat.le_refl _, by rw [sz_zero]; rfl, rfl, by rw [sz_zero]; exact Rd.nil _ _ _, Rd.nil _ _ _, Bin.nil, ⟨by simp, by rw [List.drop_eq_nil_of_le (by rw [HK.out]; exact Nat.le_refl _)]; simp [bv]⟩, hy0, b0 w⟩
  case round =>
    obtain ⟨k, i, Ao, co, R, Aq, cq, q, rfl, hi, hk, rfl, rfl, hr, hrq, hbq, hP, hR, hb0⟩ := hrel
    have lq : q.length ≤ 900 := by have := hP.out.1; omega
    by_cases h0 : k = 0
    · subst h0
      obtain rfl : i = -1 := by omega
      clear hi
      have e1 : bv q = bv a / y := by
        have := hP.out.2
        rw [List.drop_zero] at this
        rw [this, Nat.mul_comm, Nat.mul_add_div hy0, Nat.div_eq_of_lt hR, Nat.add_zero]
      have e2 : R = bv a % y := by
        have := hP.out.2
        rw [List.drop_zero] at this
        rw [this, Nat.mul_comm, Nat.mul_add_mod, Nat.mod_eq_of_lt hR]
      have E2 := hide e2
      have CT := ref_trim Aq cq q hbq (by omega) _ hrq
      rw [e1] at CT
      clear e1 e2
      go_wp2_with fail
      refine CT.mono ?_
      rintro e w1 ⟨A1, c1, rfl, hb1, hr1⟩
      go_wp2
      have hrf := hr.below hb1
      rw [E2.out] at hrf ⊢
      go_ret2
      exact ⟨A1, c1, Ao, co, rfl, bB hb0 hb1, hr1, hrf⟩
    · obtain ⟨j, rfl⟩ : ∃ j, k = j + 1 := ⟨k - 1, by omega⟩
      obtain rfl : i = (j : Int) := by omega
      clear hi
      have hja : j < a.length := by rw [HK.out]; omega
      obtain ⟨ga, rfl, hca⟩ := (ha.below hb0).at_ (k := j) hja
      have hd := bv_drop a j hja
      have K2 := ba.get hja
      generalize a[j] = p at *
      obtain ⟨hq1, hq2⟩ := hP.out
      rw [hq2] at hd
      have lR : (sz R).length ≤ 900 := by
        by_cases hc : (sz R).length ≤ (sz y).length
        · omega
        · have := sz_len_cmp (a := y) (b := R) (by omega)
          omega
      have HD := hide hd
      have HQ1 := hide hq1
      clear hd hq1 hq2 hP hja
      obtain ⟨l1, hl1⟩ : ∃ l1, [p] ++ sz R = l1 := ⟨_, rfl⟩
      have bl1 : Bin l1 := by rw [← hl1]; exact Bin.append (Bin.cons K2 Bin.nil) (Bin.sz R)
      have vl1 : bv l1 = p + 2 * R := by rw [← hl1, bv_one, bv_sz]
      have ll1 : l1.length ≤ 4096 := by rw [← hl1]; simp; omega
      have k1 : [p].length + (sz R).length ≤ 4096 := by simp; omega
      have HL1 := hide hl1
      have VL1 := hide vl1
      clear hl1 vl1
      go_wp2_with (at_builtin; refine wpList_push rfl _ _ rfl wr.heap.size _ [p] (sz R) _ _ rfl rfl (Own.oneI _ _ _ rfl) (hr.below (bA (b0 _) _)) k1 (bA (b0 _) _).size ?_; intro v1 w1 ho1 hb1 hs1)
      rw [HL1.out] at ho1
      obtain ⟨A1, c1, rfl, hr1⟩ := ho1.rd
      have hX1 := hb1 wr (bA (b0 _) _)
      have hB1 := bB hb0 hX1
      have CT := ref_trim A1 c1 l1 bl1 ll1 _ hr1
      rw [VL1.out] at CT
      refine CT.mono ?_
      rintro e w2 ⟨A2, c2, rfl, hb2, hr2⟩
      have hB2 := bB hB1 hb2
      have hq2 := (hrq.below hX1).below hb2
      have hy2 := hb.below hB2
      have l2 : (sz (p + 2 * R)).length ≤ 901 := by
        have h1 := bv_lt (Bin.sz y)
        rw [bv_sz] at h1
        have := sz_len_lt (n := p + 2 * R) (k := (sz y).length + 1) (by rw [Nat.pow_succ]; omega)
        omega
      have CL := ref_less (p + 2 * R) y A2 B c2 d (by omega) (by omega) _ hr2 hy2
      by_cases hlt : p + 2 * R < y
      · rw [decide_eq_true hlt] at CL
        go_wp2_with fail
        refine CL.mono ?_
        rintro e w3 ⟨rfl, hb3⟩
        have hq3 := hq2.below hb3
        have hr3 := hr2.below hb3
        have k2 : [0].length + q.length ≤ 4096 := by simp; omega
        have E2 : Hid (([0] ++ q).length = m - j ∧ bv (a.drop j) = bv ([0] ++ q) * y + (p + 2 * R)) := by
          have h1 := HD.out
          have h2 := HQ1.out
          refine ⟨by simp; omega, ?_⟩
          rw [bv_one, h1, Nat.mul_add, Nat.zero_add, Nat.mul_assoc]
          omega
        go_wp2_with (at_builtin; refine wpList_push rfl _ _ rfl w3.heap.size _ [0] q _ _ rfl rfl (Own.oneI _ _ _ rfl) (hq3.below (bA (b0 _) _)) k2 (bA (b0 _) _).size ?_; intro v4 w4 ho4 hb4 hs4)
        obtain ⟨A4, c4, rfl, hr4⟩ := ho4.rd
        have hX4 := hb4 w3 (bA (b0 _) _)
        go_roundw
        case rel => exact ⟨j, _, A2, c2, p + 2 * R, A4, c4, [0] ++ q, rfl, rfl, by omega, rfl, rfl, hr3.below hX4, hr4, Bin.append (Bin.cons (by decide) Bin.nil) hbq, E2.out, hlt, bB (bB hB2 hb3) hX4⟩
        case measure => simp [intOf]
      · rw [decide_eq_false hlt] at CL
        go_wp2_with fail
        refine CL.mono ?_
        rintro e w3 ⟨rfl, hb3⟩
        have hq3 := hq2.below hb3
        have hr3 := hr2.below hb3
        have CM := ref_minus (p + 2 * R) y A2 B c2 d (by omega) (by omega) _ hr3 (hy2.below hb3)
        go_wp2_with fail
        refine CM.mono ?_
        rintro e w5 ⟨A5, c5, rfl, hb5, hr5⟩
        have hq5 := hq3.below hb5
        have k2 : [1].length + q.length ≤ 4096 := by simp; omega
        have E2 : Hid (([1] ++ q).length = m - j ∧ bv (a.drop j) = bv ([1] ++ q) * y + (p + 2 * R - y)) := by
          have h1 := HD.out
          have h2 := HQ1.out
          refine ⟨by simp; omega, ?_⟩
          rw [bv_one, h1, Nat.mul_add, Nat.add_mul, Nat.one_mul, Nat.mul_assoc]
          omega
        go_wp2_with (at_builtin; refine wpList_push rfl _ _ rfl w5.heap.size _ [1] q _ _ rfl rfl (Own.oneI _ _ _ rfl) (hq5.below (bA (b0 _) _)) k2 (bA (b0 _) _).size ?_; intro v4 w4 ho4 hb4 hs4)
        obtain ⟨A4, c4, rfl, hr4⟩ := ho4.rd
        have hX4 := hb4 w5 (bA (b0 _) _)
        go_roundw
        case rel => exact ⟨j, _, A5, c5, p + 2 * R - y, A4, c4, [1] ++ q, rfl, rfl, by omega, rfl, rfl, hr5.below hX4, hr4, Bin.append (Bin.cons (by decide) Bin.nil) hbq, E2.out, by omega, bB (bB (bB hB2 hb3) hb5) hX4⟩
        case measure => simp [intOf]
end Go.Proofs.Ytfdaabdibpcjeaa
