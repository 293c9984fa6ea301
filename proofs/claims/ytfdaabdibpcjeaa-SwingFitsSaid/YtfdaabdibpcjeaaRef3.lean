/- yearbookref01 at this program: plus, minus. -/
import Derived.Test.YtfdaabdibpcjeaaRef2
set_option linter.unusedSimpArgs false
set_option linter.unusedVariables false
namespace Go.Proofs.Ytfdaabdibpcjeaa
open Go.RowKit

def dg (l : List Nat) (k : Nat) : Nat := l.getD k 0
theorem dg_in {l : List Nat} {k : Nat} (h : k < l.length) : l[k] = dg l k := by simp [dg, h]
theorem dg_out {l : List Nat} {k : Nat} (h : ¬ k < l.length) : dg l k = 0 := by simp [dg, List.getD_eq_getElem?_getD, List.getElem?_eq_none (Nat.le_of_not_lt h)]
theorem dg_lt {l : List Nat} (h : Bin l) (k : Nat) : dg l k < 2 := by
  by_cases hk : k < l.length
  · rw [← dg_in hk]; exact h.get hk
  · rw [dg_out hk]; decide
theorem take_dg (l : List Nat) (k : Nat) : bv (l.take (k + 1)) = bv (l.take k) + 2 ^ k * dg l k := by
  by_cases hk : k < l.length
  · rw [bv_take_succ l k hk, dg_in hk]
  · rw [dg_out hk, List.take_of_length_le (by omega), List.take_of_length_le (by omega)]; omega
theorem bv_push (l : List Nat) (d : Nat) : bv (l ++ [d]) = bv l + 2 ^ l.length * d := by rw [bv_append]; simp [bv]

/-- what holds behind k digits of a sum -/
structure PlusJ (a b l : List Nat) (k cr x y : Nat) : Prop where
  len : l.length = k
  bin : Bin l
  c : cr < 2
  sum : bv (a.take k) + bv (b.take k) = bv l + 2 ^ k * cr
  big : k = 0 ∨ 2 ^ (k - 1) ≤ x + y

theorem PlusJ.step {a b l : List Nat} {k cr x y : Nat} (h : PlusJ a b l k cr x y) (ea : a = sz x) (eb : b = sz y) (hgo : k < a.length ∨ k < b.length ∨ 0 < cr) :
    PlusJ a b (l ++ [(cr + dg a k + dg b k) % 2]) (k + 1) ((cr + dg a k + dg b k) / 2) x y := by
  obtain ⟨hl, hb, hc, hs, hbig⟩ := h
  have h1 := dg_lt (by rw [ea]; exact Bin.sz x : Bin a) k
  have h2 := dg_lt (by rw [eb]; exact Bin.sz y : Bin b) k
  refine ⟨by simp [hl], Bin.append hb (Bin.cons (Nat.mod_lt _ (by decide)) Bin.nil), by omega, ?_, .inr ?_⟩
  · rw [take_dg, take_dg, bv_push, hl, Nat.pow_succ]
    have e : cr + dg a k + dg b k = (cr + dg a k + dg b k) % 2 + 2 * ((cr + dg a k + dg b k) / 2) := by omega
    generalize (cr + dg a k + dg b k) % 2 = r at *
    generalize (cr + dg a k + dg b k) / 2 = q at *
    have e2 : 2 ^ k * (cr + dg a k + dg b k) = 2 ^ k * (r + 2 * q) := by rw [e]
    simp only [Nat.mul_add] at e2
    rw [Nat.mul_assoc (2 ^ k) 2 q]
    omega
  · rw [Nat.add_sub_cancel]
    by_cases ha : k < a.length
    · have := sz_len_ge (n := x) (by rw [← ea]; intro h; rw [h] at ha; simp at ha)
      rw [← ea] at this
      have := Nat.pow_le_pow_right (n := 2) (by decide) (show k ≤ a.length - 1 by omega)
      omega
    · by_cases hb' : k < b.length
      · have := sz_len_ge (n := y) (by rw [← eb]; intro h; rw [h] at hb'; simp at hb')
        rw [← eb] at this
        have := Nat.pow_le_pow_right (n := 2) (by decide) (show k ≤ b.length - 1 by omega)
        omega
      · have hcr : cr = 1 := by omega
        rw [List.take_of_length_le (by omega), List.take_of_length_le (by omega), ea, eb, bv_sz, bv_sz, hcr] at hs
        omega
theorem PlusJ.fin {a b l : List Nat} {k x y : Nat} (h : PlusJ a b l k 0 x y) (ea : a = sz x) (eb : b = sz y) (ha : ¬ k < a.length) (hb : ¬ k < b.length) : l = sz (x + y) := by
  obtain ⟨hl, hbin, _, hs, hbig⟩ := h
  rw [List.take_of_length_le (by omega), List.take_of_length_le (by omega), ea, eb, bv_sz, bv_sz] at hs
  have e : bv l = x + y := by omega
  rw [← e]
  refine (sz_bv hbin ?_).symm
  rw [e, hl]
  rcases hbig with h0 | h0
  · left; exact List.eq_nil_of_length_eq_zero (by omega)
  · right; exact h0
theorem PlusJ.lt {a b l : List Nat} {k cr x y M : Nat} (h : PlusJ a b l k cr x y) (hM : x + y < 2 ^ M) : k ≤ M := by
  rcases h.big with h0 | h0
  · omega
  · by_cases hk : k ≤ M
    · exact hk
    · have := Nat.pow_le_pow_right (n := 2) (by decide) (show M ≤ k - 1 by omega)
      omega

set_option maxRecDepth 100000 in
set_option maxHeartbeats 2000000 in
theorem ref_plus (x y M : Nat) (A B : Option Addr) (c d : Nat) (hM : M ≤ 1000) (hxy : x + y < 2 ^ M) (w : World) (ha : Rd w A c (sz x)) (hb : Rd w B d (sz y)) :
    Calls Try.prog 74 #[.slice A (sz x).length c, .slice B (sz y).length d] w (GivesSz (x + y) w) := by
  obtain ⟨a, ea⟩ : ∃ a, a = sz x := ⟨_, rfl⟩
  obtain ⟨b, eb⟩ : ∃ b, b = sz y := ⟨_, rfl⟩
  have la : a.length ≤ 1000 := by
    have := sz_len_lt (n := x) (k := M) (by omega)
    rw [ea]; omega
  have lb : b.length ≤ 1000 := by
    have := sz_len_lt (n := y) (k := M) (by omega)
    rw [eb]; omega
  rw [← ea] at ha ⊢
  rw [← eb] at hb ⊢
  have HA := hide ea
  have HB := hide eb
  have HM := hide hxy
  clear ea eb hxy
  obtain ⟨n, hn⟩ : ∃ n, a.length = n := ⟨_, rfl⟩
  obtain ⟨m, hm⟩ : ∃ m, b.length = m := ⟨_, rfl⟩
  rw [hn] at la ⊢
  rw [hm] at lb ⊢
  have HN := hide hn
  have HK := hide hm
  clear hn hm
  go_enter Try.func74, Try.ntmps74
  go_wp2
  go_loopw [5, 6, 7] (fun vo vc vi wr => ∃ (k cr : Nat) (l : List Nat), vi = .int .i64 (k : Int) ∧ vc = .int .i64 (cr : Int) ∧ cr < 2 ∧ k ≤ M ∧ Own w.heap.size wr vo l ∧ Hid (PlusJ a b l k cr x y) ∧ Below w.heap.size w wr) (fun _ _ vi _ => M + 1 - (intOf vi).toNat)
  case atStart => exact ⟨0, 0, [], rfl, rfl, by decide, Nat.zero_le _, Own.nil _ _, ⟨rfl, Bin.nil, by decide, by simp [bv], .inl rfl⟩, b0 w⟩
  case round =>
    obtain ⟨k, cr, l, rfl, rfl, hc, hkM, ho, hJ, hb0⟩ := hrel
    have D1 := dg_lt (by rw [HA.out]; exact Bin.sz x : Bin a) k
    have D2 := dg_lt (by rw [HB.out]; exact Bin.sz y : Bin b) k
    have k1 : l.length + [(cr + dg a k + dg b k) % 2].length ≤ 4096 := by have := hJ.out.len; simp; omega
    have C1 := hide k1
    clear k1
    by_cases ca : k < n <;> by_cases cb : k < m
    · have hja : k < a.length := by rw [HN.out]; exact ca
      obtain ⟨ga, rfl, hca⟩ := (ha.below hb0).at_ (k := k) hja
      rw [dg_in hja] at hca
      have hjb : k < b.length := by rw [HK.out]; exact cb
      obtain ⟨gb, rfl, hcb⟩ := (hb.below hb0).at_ (k := k) hjb
      rw [dg_in hjb] at hcb
      have HS := hide (hJ.out.step HA.out HB.out (.inl hja))
      have HL := hide (hJ.out.step HA.out HB.out (.inl hja) |>.lt HM.out)
      clear hja hjb
      generalize e1 : dg a k = p at *
      generalize e2 : dg b k = q at *
      clear e1
      clear e2
      go_wp2_with (at_builtin; refine wpList_push rfl _ _ rfl w.heap.size _ l [(cr + p + q) % 2] _ _ rfl rfl (ho.lift (bA (b0 _) _)) (Rd.oneI _ _ _ (by omega)) C1.out (bA hb0 _).size ?_; intro v1 w1 ho1 hb1 hs1)
      go_roundw
      case rel => exact ⟨k + 1, (cr + p + q) / 2, l ++ [(cr + p + q) % 2], by go_num, by go_num, by omega, HL.out, ho1, HS.out, hb1 _ (bA hb0 _)⟩
      case measure => simp [intOf]; have := HL.out; omega
    · have hja : k < a.length := by rw [HN.out]; exact ca
      obtain ⟨ga, rfl, hca⟩ := (ha.below hb0).at_ (k := k) hja
      rw [dg_in hja] at hca
      have hjb : ¬ k < b.length := by rw [HK.out]; exact cb
      have Z2 := hide (dg_out hjb)
      have HS := hide (hJ.out.step HA.out HB.out (.inl hja))
      have HL := hide (hJ.out.step HA.out HB.out (.inl hja) |>.lt HM.out)
      clear hja hjb
      have hB0 := Z2.out
      unfold Hid at HS C1
      rw [hB0] at HS C1
      clear hB0
      simp only [Nat.add_zero] at HS C1
      replace HS := hide HS
      replace C1 := hide C1
      generalize e1 : dg a k = p at *
      clear e1
      go_wp2_with (at_builtin; refine wpList_push rfl _ _ rfl w.heap.size _ l [(cr + p) % 2] _ _ rfl rfl (ho.lift (bA (b0 _) _)) (Rd.oneI _ _ _ (by omega)) C1.out (bA hb0 _).size ?_; intro v1 w1 ho1 hb1 hs1)
      go_roundw
      case rel => exact ⟨k + 1, (cr + p) / 2, l ++ [(cr + p) % 2], by go_num, by go_num, by omega, HL.out, ho1, HS.out, hb1 _ (bA hb0 _)⟩
      case measure => simp [intOf]; have := HL.out; omega
    · have hja : ¬ k < a.length := by rw [HN.out]; exact ca
      have Z1 := hide (dg_out hja)
      have hjb : k < b.length := by rw [HK.out]; exact cb
      obtain ⟨gb, rfl, hcb⟩ := (hb.below hb0).at_ (k := k) hjb
      rw [dg_in hjb] at hcb
      have HS := hide (hJ.out.step HA.out HB.out (.inr (.inl hjb)))
      have HL := hide (hJ.out.step HA.out HB.out (.inr (.inl hjb)) |>.lt HM.out)
      clear hja hjb
      have hA0 := Z1.out
      unfold Hid at HS C1
      rw [hA0] at HS C1
      clear hA0
      simp only [Nat.add_zero] at HS C1
      replace HS := hide HS
      replace C1 := hide C1
      generalize e2 : dg b k = q at *
      clear e2
      go_wp2_with (at_builtin; refine wpList_push rfl _ _ rfl w.heap.size _ l [(cr + q) % 2] _ _ rfl rfl (ho.lift (bA (b0 _) _)) (Rd.oneI _ _ _ (by omega)) C1.out (bA hb0 _).size ?_; intro v1 w1 ho1 hb1 hs1)
      go_roundw
      case rel => exact ⟨k + 1, (cr + q) / 2, l ++ [(cr + q) % 2], by go_num, by go_num, by omega, HL.out, ho1, HS.out, hb1 _ (bA hb0 _)⟩
      case measure => simp [intOf]; have := HL.out; omega
    · by_cases cp : 0 < cr
      · have hja : ¬ k < a.length := by rw [HN.out]; exact ca
        have Z1 := hide (dg_out hja)
        have hjb : ¬ k < b.length := by rw [HK.out]; exact cb
        have Z2 := hide (dg_out hjb)
        have HS := hide (hJ.out.step HA.out HB.out (.inr (.inr cp)))
        have HL := hide (hJ.out.step HA.out HB.out (.inr (.inr cp)) |>.lt HM.out)
        clear hja hjb
        have hA0 := Z1.out
        have hB0 := Z2.out
        unfold Hid at HS C1
        rw [hA0, hB0] at HS C1
        clear hA0 hB0
        simp only [Nat.add_zero] at HS C1
        replace HS := hide HS
        replace C1 := hide C1
        go_wp2_with (at_builtin; refine wpList_push rfl _ _ rfl w.heap.size _ l [(cr) % 2] _ _ rfl rfl (ho.lift (bA (b0 _) _)) (Rd.oneI _ _ _ (by omega)) C1.out (bA hb0 _).size ?_; intro v1 w1 ho1 hb1 hs1)
        go_roundw
        case rel => exact ⟨k + 1, (cr) / 2, l ++ [(cr) % 2], by go_num, by go_num, by omega, HL.out, ho1, HS.out, hb1 _ (bA hb0 _)⟩
        case measure => simp [intOf]; have := HL.out; omega
      · have hja : ¬ k < a.length := by rw [HN.out]; exact ca
        have Z1 := hide (dg_out hja)
        have hjb : ¬ k < b.length := by rw [HK.out]; exact cb
        have Z2 := hide (dg_out hjb)
        have hz : cr = 0 := by omega
        subst hz
        have HF := hide (hJ.out.fin HA.out HB.out hja hjb)
        clear hja hjb
        go_wp2
        go_ret
        exact GivesSz.of_own rfl hb0 ho HF.out
end Go.Proofs.Ytfdaabdibpcjeaa
