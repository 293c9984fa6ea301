/- yearbookref01 at this program: minus, times. -/
import Derived.Test.YtfdaabdibpcjeaaRef3
set_option linter.unusedSimpArgs false
set_option linter.unusedVariables false
namespace Go.Proofs.Ytfdaabdibpcjeaa
open Go.RowKit

/-- what holds behind k digits of a difference -/
structure MinusJ (a b l : List Nat) (k bo : Nat) : Prop where
  len : l.length = k
  bin : Bin l
  c : bo < 2
  sum : bv (a.take k) + 2 ^ k * bo = bv l + bv (b.take k)

theorem MinusJ.step {a b l : List Nat} {k bo r bo' : Nat} (h : MinusJ a b l k bo) (hr : r < 2) (hb' : bo' < 2) (e : dg a k + 2 * bo' = r + bo + dg b k) : MinusJ a b (l ++ [r]) (k + 1) bo' := by
  obtain ⟨hl, hb, hc, hs⟩ := h
  refine ⟨by simp [hl], Bin.append hb (Bin.cons hr Bin.nil), hb', ?_⟩
  rw [take_dg, take_dg, bv_push, hl, Nat.pow_succ]
  have e2 : 2 ^ k * (dg a k + 2 * bo') = 2 ^ k * (r + bo + dg b k) := by rw [e]
  simp only [Nat.mul_add] at e2
  rw [Nat.mul_assoc (2 ^ k) 2 bo']
  omega
theorem MinusJ.fin {x y bo : Nat} {l : List Nat} (h : MinusJ (sz x) (sz y) l (sz x).length bo) (hxy : y ≤ x) : bv l = x - y := by
  obtain ⟨hl, hb, hc, hs⟩ := h
  have hlen : (sz y).length ≤ (sz x).length := by
    by_cases hc : (sz y).length ≤ (sz x).length
    · exact hc
    · have := sz_len_cmp (a := x) (b := y) (by omega)
      omega
  rw [List.take_of_length_le (Nat.le_refl _), List.take_of_length_le hlen, bv_sz, bv_sz] at hs
  have := bv_lt hb
  rw [hl] at this
  rcases (show bo = 0 ∨ bo = 1 by omega) with rfl | rfl
  · omega
  · omega

set_option maxRecDepth 100000 in
set_option maxHeartbeats 2000000 in
theorem ref_minus (x y : Nat) (A B : Option Addr) (c d : Nat) (hx : (sz x).length ≤ 1000) (hxy : y ≤ x) (w : World) (ha : Rd w A c (sz x)) (hb : Rd w B d (sz y)) :
    Calls Try.prog 76 #[.slice A (sz x).length c, .slice B (sz y).length d] w (GivesSz (x - y) w) := by
  obtain ⟨a, ea⟩ : ∃ a, a = sz x := ⟨_, rfl⟩
  obtain ⟨b, eb⟩ : ∃ b, b = sz y := ⟨_, rfl⟩
  have lb : (sz y).length ≤ 1000 := by
    by_cases hc : (sz y).length ≤ (sz x).length
    · omega
    · have := sz_len_cmp (a := x) (b := y) (by omega)
      omega
  rw [← ea] at ha hx ⊢
  rw [← eb] at hb lb ⊢
  have HA := hide ea
  have HB := hide eb
  clear ea eb
  obtain ⟨n, hn⟩ : ∃ n, a.length = n := ⟨_, rfl⟩
  obtain ⟨m, hm⟩ : ∃ m, b.length = m := ⟨_, rfl⟩
  rw [hn] at hx ⊢
  rw [hm] at lb ⊢
  have HN := hide hn
  have HK := hide hm
  clear hn hm
  go_enter Try.func76, Try.ntmps76
  go_wp2
  go_loopw [5, 6, 7] (fun vo vc vi wr => ∃ (k bo : Nat) (l : List Nat), vi = .int .i64 (k : Int) ∧ vc = .int .i64 (bo : Int) ∧ bo < 2 ∧ k ≤ n ∧ Own w.heap.size wr vo l ∧ Hid (MinusJ a b l k bo) ∧ Below w.heap.size w wr) (fun _ _ vi _ => n - (intOf vi).toNat)
  case atStart => exact ⟨0, 0, [], rfl, rfl, by decide, Nat.zero_le _, Own.nil _ _, ⟨rfl, Bin.nil, by decide, by simp [bv]⟩, b0 w⟩
  case round =>
    obtain ⟨k, bo, l, rfl, rfl, hc, hkn, ho, hJ, hb0⟩ := hrel
    have D1 := dg_lt (by rw [HA.out]; exact Bin.sz x : Bin a) k
    have D2 := dg_lt (by rw [HB.out]; exact Bin.sz y : Bin b) k
    have k1 : ∀ r : Nat, l.length + [r].length ≤ 4096 := by intro r; have := hJ.out.len; simp; omega
    have C1 := hide k1
    clear k1
    by_cases ca : k < n
    · by_cases cb : k < m
      · by_cases cn : dg a k < bo + dg b k
        · have hja : k < a.length := by rw [HN.out]; exact ca
          obtain ⟨ga, rfl, hca⟩ := (ha.below hb0).at_ (k := k) hja
          rw [dg_in hja] at hca
          have hjb : k < b.length := by rw [HK.out]; exact cb
          obtain ⟨gb, rfl, hcb⟩ := (hb.below hb0).at_ (k := k) hjb
          rw [dg_in hjb] at hcb
          clear hja hjb
          have HS := hide (hJ.out.step (r := dg a k + 2 - bo - dg b k) (bo' := 1) (by omega) (by decide) (by omega))
          generalize e1 : dg a k = p at *
          clear e1
          generalize e2 : dg b k = q at *
          clear e2
          have ht : (p : Int) - bo - q < 0 := by omega
          go_wp2_with (at_builtin; refine wpList_push rfl _ _ rfl w.heap.size _ l [p + 2 - bo - q] _ _ rfl rfl (ho.lift (bA (b0 _) _)) (Rd.oneI _ _ _ (by omega)) (C1.out _) (bA hb0 _).size ?_; intro v1 w1 ho1 hb1 hs1)
          go_roundw
          case rel => exact ⟨k + 1, 1, l ++ [p + 2 - bo - q], by go_num, by go_num, by decide, by omega, ho1, HS.out, hb1 _ (bA hb0 _)⟩
          case measure => simp [intOf]; omega
        · have hja : k < a.length := by rw [HN.out]; exact ca
          obtain ⟨ga, rfl, hca⟩ := (ha.below hb0).at_ (k := k) hja
          rw [dg_in hja] at hca
          have hjb : k < b.length := by rw [HK.out]; exact cb
          obtain ⟨gb, rfl, hcb⟩ := (hb.below hb0).at_ (k := k) hjb
          rw [dg_in hjb] at hcb
          clear hja hjb
          have HS := hide (hJ.out.step (r := dg a k - bo - dg b k) (bo' := 0) (by omega) (by decide) (by omega))
          generalize e1 : dg a k = p at *
          clear e1
          generalize e2 : dg b k = q at *
          clear e2
          have ht : ¬ (p : Int) - bo - q < 0 := by omega
          go_wp2_with (at_builtin; refine wpList_push rfl _ _ rfl w.heap.size _ l [p - bo - q] _ _ rfl rfl (ho.lift (bA (b0 _) _)) (Rd.oneI _ _ _ (by omega)) (C1.out _) (bA hb0 _).size ?_; intro v1 w1 ho1 hb1 hs1)
          go_roundw
          case rel => exact ⟨k + 1, 0, l ++ [p - bo - q], by go_num, by go_num, by decide, by omega, ho1, HS.out, hb1 _ (bA hb0 _)⟩
          case measure => simp [intOf]; omega
      · by_cases cn : dg a k < bo
        · have hja : k < a.length := by rw [HN.out]; exact ca
          obtain ⟨ga, rfl, hca⟩ := (ha.below hb0).at_ (k := k) hja
          rw [dg_in hja] at hca
          have hjb : ¬ k < b.length := by rw [HK.out]; exact cb
          have Z2 := hide (dg_out hjb)
          clear hja hjb
          have HS := hide (hJ.out.step (r := dg a k + 2 - bo) (bo' := 1) (by have := Z2.out; omega) (by decide) (by have := Z2.out; omega))
          generalize e1 : dg a k = p at *
          clear e1
          have ht : (p : Int) - bo < 0 := by omega
          go_wp2_with (at_builtin; refine wpList_push rfl _ _ rfl w.heap.size _ l [p + 2 - bo] _ _ rfl rfl (ho.lift (bA (b0 _) _)) (Rd.oneI _ _ _ (by omega)) (C1.out _) (bA hb0 _).size ?_; intro v1 w1 ho1 hb1 hs1)
          go_roundw
          case rel => exact ⟨k + 1, 1, l ++ [p + 2 - bo], by go_num, by go_num, by decide, by omega, ho1, HS.out, hb1 _ (bA hb0 _)⟩
          case measure => simp [intOf]; omega
        · have hja : k < a.length := by rw [HN.out]; exact ca
          obtain ⟨ga, rfl, hca⟩ := (ha.below hb0).at_ (k := k) hja
          rw [dg_in hja] at hca
          have hjb : ¬ k < b.length := by rw [HK.out]; exact cb
          have Z2 := hide (dg_out hjb)
          clear hja hjb
          have HS := hide (hJ.out.step (r := dg a k - bo) (bo' := 0) (by have := Z2.out; omega) (by decide) (by have := Z2.out; omega))
          generalize e1 : dg a k = p at *
          clear e1
          have ht : ¬ (p : Int) - bo < 0 := by omega
          go_wp2_with (at_builtin; refine wpList_push rfl _ _ rfl w.heap.size _ l [p - bo] _ _ rfl rfl (ho.lift (bA (b0 _) _)) (Rd.oneI _ _ _ (by omega)) (C1.out _) (bA hb0 _).size ?_; intro v1 w1 ho1 hb1 hs1)
          go_roundw
          case rel => exact ⟨k + 1, 0, l ++ [p - bo], by go_num, by go_num, by decide, by omega, ho1, HS.out, hb1 _ (bA hb0 _)⟩
          case measure => simp [intOf]; omega
    · have hk : k = n := by omega
      subst hk
      have hF : Hid (bv l = x - y) := by
        have := hJ.out
        rw [← HN.out, HA.out, HB.out] at this
        exact this.fin hxy
      have hbin := hJ.out.bin
      have hlen := (C1.out 0)
      obtain ⟨A', c', rfl, hr'⟩ := ho.rd
      have CT := ref_trim A' c' l hbin (by simp at hlen; omega)
      rw [hF.out] at CT
      go_wp2_with fail
      refine (CT _ hr').mono ?_
      rintro e w1 ⟨A2, c2, rfl, hb1, hr1⟩
      go_wp2
      go_ret
      exact ⟨A2, c2, rfl, bB hb0 hb1, hr1⟩
end Go.Proofs.Ytfdaabdibpcjeaa
