/- yearbookref01 at this program: less, made, plus, minus. yearbookref01 at this program: plus, minus. yearbookref01 at this program: minus, times. yearbookref01 at this program: times, parts. yearbookref01 at this program: made, Int, Mul, Less: numbers with a sign. yearbookref05 at this program: Slope, Common, Lowest, Less, Nearest; line.Nearest. yearbookref01 at this program: word, Fits, Value, Of, Neg, Add, Pow. -/
import Derived.Test.YtmpfbkeamihjbaaGreatP4
import Derived.Deep.QuietTactic
import Derived.BigQuiet
set_option linter.unusedSimpArgs false
set_option linter.unusedVariables false
namespace Go.Proofs.YtmpfbkeamihjbaaGreat
open Go.RowKit

theorem bN {w W : World} (h : Below w.heap.size w W) (n : Nat) : Below w.heap.size w (W.drewN n) := by
  induction n with
  | zero => exact h
  | succ n ih => exact ih.drew

/-- from the top on the first digits that differ tell -/
theorem less_at {a b : List Nat} (ha : Bin a) (hb : Bin b) (hl : a.length = b.length) (j : Nat) (hj : j < a.length) (he : a.drop (j + 1) = b.drop (j + 1)) (hn : a[j] ≠ b[j]) : (bv a < bv b ↔ a[j] < b[j]) := by
  have h1 := bv_split a j (by omega)
  have h2 := bv_split b j (by omega)
  have h3 := bv_drop a j hj
  have h4 := bv_drop b j (by omega)
  have h5 := bv_lt (ha.take j)
  have h6 := bv_lt (hb.take j)
  rw [List.length_take, Nat.min_eq_left (by omega)] at h5 h6
  rw [he] at h3
  have g1 := ha.get hj
  have g2 := hb.get (k := j) (by omega)
  generalize bv (b.drop (j + 1)) = D at *
  rw [h3] at h1
  rw [h4] at h2
  generalize a[j] = x at *
  generalize b[j] = y at *
  rw [h1, h2]
  rcases (show x = 0 ∧ y = 1 ∨ x = 1 ∧ y = 0 by omega) with ⟨rfl, rfl⟩ | ⟨rfl, rfl⟩
  · simp only [Nat.mul_add, Nat.mul_zero, Nat.mul_one]; omega
  · simp only [Nat.mul_add, Nat.mul_zero, Nat.mul_one]; omega

set_option maxRecDepth 100000 in
set_option maxHeartbeats 1000000 in
theorem ref_less (x y : Nat) (A B : Option Addr) (c d : Nat) (hx : (sz x).length ≤ 4096) (hy : (sz y).length ≤ 4096) (w : World) (ha : Rd w A c (sz x)) (hb : Rd w B d (sz y)) :
    Calls Tryz.prog 129 #[.slice A (sz x).length c, .slice B (sz y).length d] w fun e w' => e = .returned (.bool (decide (x < y))) ∧ Below w.heap.size w w' := by
  obtain ⟨a, ea⟩ : ∃ a, a = sz x := ⟨_, rfl⟩
  obtain ⟨b, eb⟩ : ∃ b, b = sz y := ⟨_, rfl⟩
  have vx : bv a = x := by rw [ea, bv_sz]
  have vy : bv b = y := by rw [eb, bv_sz]
  have ba : Bin a := by rw [ea]; exact Bin.sz x
  have bb : Bin b := by rw [eb]; exact Bin.sz y
  by_cases hlen : a.length = b.length
  · have HX := hide vx
    have HY := hide vy
    rw [← ea] at hx ha ⊢
    rw [← eb] at hy hb ⊢
    clear ea eb vx vy
    obtain ⟨n, hn⟩ : ∃ n, n = a.length := ⟨_, rfl⟩
    have hn2 : n = b.length := by omega
    rw [← hn] at hx ⊢
    rw [← hn2] at hy ⊢
    have HN := hide hn
    have HN2 := hide hn2
    clear hn hn2 hlen
    go_enter Tryz.func129, Tryz.ntmps129
    go_wp2
    go_loopw [5] (fun vi wr => ∃ (k : Nat) (i : Int), vi = .int .i64 i ∧ i = (k : Int) - 1 ∧ k ≤ n ∧ Hid (a.drop k = b.drop k) ∧ Below w.heap.size w wr) (fun vi _ => (intOf vi + 1).toNat)
    case atStart => exact ⟨n, _, rfl, rfl, Nat.le_refl _, by rw [Hid, List.drop_eq_nil_of_le (by rw [HN.out]; exact Nat.le_refl _), List.drop_eq_nil_of_le (by rw [HN2.out]; exact Nat.le_refl _)], b0 w⟩
    case round =>
      obtain ⟨k, i, rfl, hi, hk, he, hb0⟩ := hrel
      by_cases h0 : k = 0
      · subst h0
        obtain rfl : i = -1 := by omega
        clear hi
        go_wp2
        go_ret
        have e2 : a = b := he.out
        refine ⟨?_, hb0⟩
        rw [← HX.out, ← HY.out, e2]
        simp
      · obtain ⟨j, rfl⟩ : ∃ j, k = j + 1 := ⟨k - 1, by omega⟩
        obtain rfl : i = (j : Int) := by omega
        clear hi
        have hja : j < a.length := by rw [← HN.out]; omega
        have hjb : j < b.length := by rw [← HN2.out]; omega
        obtain ⟨ga, rfl, hca⟩ := (ha.below hb0).at_ (k := j) hja
        obtain ⟨gb, rfl, hcb⟩ := (hb.below hb0).at_ (k := j) hjb
        have K1 := ba.get hja
        have K2 := bb.get hjb
        by_cases h1 : a[j] = b[j]
        · have hq : ((a[j] : Int) != (b[j] : Int)) = false := by simp [h1]
          have HE := hide (show a.drop j = b.drop j by rw [List.drop_eq_getElem_cons hja, List.drop_eq_getElem_cons hjb, h1, he.out])
          generalize a[j] = p at *
          generalize b[j] = q at *
          go_wp2
          go_quiet (fail)
          go_wp2
          go_roundw
          case rel => exact ⟨j, _, rfl, rfl, by omega, HE, bN hb0 _⟩
          case measure => simp [intOf]
        · have hq : ((a[j] : Int) != (b[j] : Int)) = true := by simp; omega
          have HE := hide (less_at ba bb (by rw [← HN.out, ← HN2.out]) j hja he.out h1)
          rw [HX.out, HY.out] at HE
          generalize a[j] = p at *
          generalize b[j] = q at *
          go_wp2
          go_quiet (fail)
          go_wp2
          go_quiet (fail)
          go_wp2
          go_ret
          refine ⟨?_, bN (bN hb0 _) _⟩
          have : decide (p < q) = decide (x < y) := decide_eq_decide.2 HE.out.symm
          rw [← this]; rfl
  · have hd : decide (a.length < b.length) = decide (x < y) := by
      refine decide_eq_decide.2 ?_
      rw [ea, eb]
      rw [ea, eb] at hlen
      constructor
      · exact sz_len_cmp
      · intro h
        by_cases hc : (sz x).length < (sz y).length
        · exact hc
        · have := sz_len_cmp (a := y) (b := x) (by omega)
          omega
    rw [← ea] at hx ha ⊢
    rw [← eb] at hy hb ⊢
    rw [← hd]
    clear hd ea eb vx vy
    generalize a.length = n at *
    generalize b.length = m at *
    have hq : ((n : Int) != (m : Int)) = true := by simp; omega
    go_enter Tryz.func129, Tryz.ntmps129
    go_wp2
    go_ret
    exact ⟨by simp, b0 w⟩
end Go.Proofs.YtmpfbkeamihjbaaGreat

namespace Go.Proofs.YtmpfbkeamihjbaaGreat
open Go.RowKit

def dg (l : List Nat) (k : Nat) : Nat := l.getD k 0
theorem dg_in {l : List Nat} {k : Nat} (h : k < l.length) : l[k] = dg l k := by simp [dg, h]
theorem dg_out {l : List Nat} {k : Nat} (h : ¬ k < l.length) : dg l k = 0 := by simp [dg, List.getD_eq_getElem?_getD, List.getElem?_eq_none (Nat.le_of_not_lt h)]
theorem dg_lt {l : List Nat} (h : Bin l) (k : Nat) : dg l k < 2 := by
  by_cases hk : k < l.length
  · rw [← dg_in hk]; exact h.get hk
  · rw [dg_out hk]; decide
theorem take_dg (l : List Nat) (k : Nat) : bv (l.take (k + 1)) = bv (l.take k) + 2 ^ k * dg l k := by
  by_cases hk : k < l.length
  · rw [bv_take_succ l k hk, dg_in hk]
  · rw [dg_out hk, List.take_of_length_le (by omega), List.take_of_length_le (by omega)]; omega
theorem bv_push (l : List Nat) (d : Nat) : bv (l ++ [d]) = bv l + 2 ^ l.length * d := by rw [bv_append]; simp [bv]

/-- what holds behind k digits of a sum -/
structure PlusJ (a b l : List Nat) (k cr x y : Nat) : Prop where
  len : l.length = k
  bin : Bin l
  c : cr < 2
  sum : bv (a.take k) + bv (b.take k) = bv l + 2 ^ k * cr
  big : k = 0 ∨ 2 ^ (k - 1) ≤ x + y

theorem PlusJ.step {a b l : List Nat} {k cr x y : Nat} (h : PlusJ a b l k cr x y) (ea : a = sz x) (eb : b = sz y) (hgo : k < a.length ∨ k < b.length ∨ 0 < cr) :
    PlusJ a b (l ++ [(cr + dg a k + dg b k) % 2]) (k + 1) ((cr + dg a k + dg b k) / 2) x y := by
  obtain ⟨hl, hb, hc, hs, hbig⟩ := h
  have h1 := dg_lt (by rw [ea]; exact Bin.sz x : Bin a) k
  have h2 := dg_lt (by rw [eb]; exact Bin.sz y : Bin b) k
  refine ⟨by simp [hl], Bin.append hb (Bin.cons (Nat.mod_lt _ (by decide)) Bin.nil), by omega, ?_, .inr ?_⟩
  · rw [take_dg, take_dg, bv_push, hl, Nat.pow_succ]
    have e : cr + dg a k + dg b k = (cr + dg a k + dg b k) % 2 + 2 * ((cr + dg a k + dg b k) / 2) := by omega
    generalize (cr + dg a k + dg b k) % 2 = r at *
    generalize (cr + dg a k + dg b k) / 2 = q at *
    have e2 : 2 ^ k * (cr + dg a k + dg b k) = 2 ^ k * (r + 2 * q) := by rw [e]
    simp only [Nat.mul_add] at e2
    rw [Nat.mul_assoc (2 ^ k) 2 q]
    omega
  · rw [Nat.add_sub_cancel]
    by_cases ha : k < a.length
    · have := sz_len_ge (n := x) (by rw [← ea]; intro h; rw [h] at ha; simp at ha)
      rw [← ea] at this
      have := Nat.pow_le_pow_right (n := 2) (by decide) (show k ≤ a.length - 1 by omega)
      omega
    · by_cases hb' : k < b.length
      · have := sz_len_ge (n := y) (by rw [← eb]; intro h; rw [h] at hb'; simp at hb')
        rw [← eb] at this
        have := Nat.pow_le_pow_right (n := 2) (by decide) (show k ≤ b.length - 1 by omega)
        omega
      · have hcr : cr = 1 := by omega
        rw [List.take_of_length_le (by omega), List.take_of_length_le (by omega), ea, eb, bv_sz, bv_sz, hcr] at hs
        omega
theorem PlusJ.fin {a b l : List Nat} {k x y : Nat} (h : PlusJ a b l k 0 x y) (ea : a = sz x) (eb : b = sz y) (ha : ¬ k < a.length) (hb : ¬ k < b.length) : l = sz (x + y) := by
  obtain ⟨hl, hbin, _, hs, hbig⟩ := h
  rw [List.take_of_length_le (by omega), List.take_of_length_le (by omega), ea, eb, bv_sz, bv_sz] at hs
  have e : bv l = x + y := by omega
  rw [← e]
  refine (sz_bv hbin ?_).symm
  rw [e, hl]
  rcases hbig with h0 | h0
  · left; exact List.eq_nil_of_length_eq_zero (by omega)
  · right; exact h0
theorem PlusJ.lt {a b l : List Nat} {k cr x y M : Nat} (h : PlusJ a b l k cr x y) (hM : x + y < 2 ^ M) : k ≤ M := by
  rcases h.big with h0 | h0
  · omega
  · by_cases hk : k ≤ M
    · exact hk
    · have := Nat.pow_le_pow_right (n := 2) (by decide) (show M ≤ k - 1 by omega)
      omega

set_option maxRecDepth 100000 in
set_option maxHeartbeats 2000000 in
theorem ref_plus (x y M : Nat) (A B : Option Addr) (c d : Nat) (hM : M ≤ 1000) (hxy : x + y < 2 ^ M) (w : World) (ha : Rd w A c (sz x)) (hb : Rd w B d (sz y)) :
    Calls Tryz.prog 100 #[.slice A (sz x).length c, .slice B (sz y).length d] w (GivesSz (x + y) w) := by
  obtain ⟨a, ea⟩ : ∃ a, a = sz x := ⟨_, rfl⟩
  obtain ⟨b, eb⟩ : ∃ b, b = sz y := ⟨_, rfl⟩
  have la : a.length ≤ 1000 := by
    have := sz_len_lt (n := x) (k := M) (by omega)
    rw [ea]; omega
  have lb : b.length ≤ 1000 := by
    have := sz_len_lt (n := y) (k := M) (by omega)
    rw [eb]; omega
  rw [← ea] at ha ⊢
  rw [← eb] at hb ⊢
  have HA := hide ea
  have HB := hide eb
  have HM := hide hxy
  clear ea eb hxy
  obtain ⟨n, hn⟩ : ∃ n, a.length = n := ⟨_, rfl⟩
  obtain ⟨m, hm⟩ : ∃ m, b.length = m := ⟨_, rfl⟩
  rw [hn] at la ⊢
  rw [hm] at lb ⊢
  have HN := hide hn
  have HK := hide hm
  clear hn hm
  go_enter Tryz.func100, Tryz.ntmps100
  go_wp2
  go_loopw [5, 6, 7] (fun vo vc vi wr => ∃ (k cr : Nat) (l : List Nat), vi = .int .i64 (k : Int) ∧ vc = .int .i64 (cr : Int) ∧ cr < 2 ∧ k ≤ M ∧ Own w.heap.size wr vo l ∧ Hid (PlusJ a b l k cr x y) ∧ Below w.heap.size w wr) (fun _ _ vi _ => M + 1 - (intOf vi).toNat)
  case atStart => exact ⟨0, 0, [], rfl, rfl, by decide, Nat.zero_le _, Own.nil _ _, ⟨rfl, Bin.nil, by decide, by simp [bv], .inl rfl⟩, b0 w⟩
  case round =>
    obtain ⟨k, cr, l, rfl, rfl, hc, hkM, ho, hJ, hb0⟩ := hrel
    have D1 := dg_lt (by rw [HA.out]; exact Bin.sz x : Bin a) k
    have D2 := dg_lt (by rw [HB.out]; exact Bin.sz y : Bin b) k
    have k1 : l.length + [(cr + dg a k + dg b k) % 2].length ≤ 4096 := by have := hJ.out.len; simp; omega
    have C1 := hide k1
    clear k1
    by_cases ca : k < n <;> by_cases cb : k < m
    · have hja : k < a.length := by rw [HN.out]; exact ca
      obtain ⟨ga, rfl, hca⟩ := (ha.below hb0).at_ (k := k) hja
      rw [dg_in hja] at hca
      have hjb : k < b.length := by rw [HK.out]; exact cb
      obtain ⟨gb, rfl, hcb⟩ := (hb.below hb0).at_ (k := k) hjb
      rw [dg_in hjb] at hcb
      have HS := hide (hJ.out.step HA.out HB.out (.inl hja))
      have HL := hide (hJ.out.step HA.out HB.out (.inl hja) |>.lt HM.out)
      clear hja hjb
      generalize e1 : dg a k = p at *
      generalize e2 : dg b k = q at *
      clear e1
      clear e2
      go_wp2_with (at_builtin; refine wpList_push rfl _ _ rfl w.heap.size _ l [(cr + p + q) % 2] _ _ rfl rfl (ho.lift (bA (b0 _) _)) (Rd.oneI _ _ _ (by omega)) C1.out (bA hb0 _).size ?_; intro v1 w1 ho1 hb1 hs1)
      go_roundw
      case rel => exact ⟨k + 1, (cr + p + q) / 2, l ++ [(cr + p + q) % 2], by go_num, by go_num, by omega, HL.out, ho1, HS.out, hb1 _ (bA hb0 _)⟩
      case measure => simp [intOf]; have := HL.out; omega
    · have hja : k < a.length := by rw [HN.out]; exact ca
      obtain ⟨ga, rfl, hca⟩ := (ha.below hb0).at_ (k := k) hja
      rw [dg_in hja] at hca
      have hjb : ¬ k < b.length := by rw [HK.out]; exact cb
      have Z2 := hide (dg_out hjb)
      have HS := hide (hJ.out.step HA.out HB.out (.inl hja))
      have HL := hide (hJ.out.step HA.out HB.out (.inl hja) |>.lt HM.out)
      clear hja hjb
      have hB0 := Z2.out
      unfold Hid at HS C1
      rw [hB0] at HS C1
      clear hB0
      simp only [Nat.add_zero] at HS C1
      replace HS := hide HS
      replace C1 := hide C1
      generalize e1 : dg a k = p at *
      clear e1
      go_wp2_with (at_builtin; refine wpList_push rfl _ _ rfl w.heap.size _ l [(cr + p) % 2] _ _ rfl rfl (ho.lift (bA (b0 _) _)) (Rd.oneI _ _ _ (by omega)) C1.out (bA hb0 _).size ?_; intro v1 w1 ho1 hb1 hs1)
      go_roundw
      case rel => exact ⟨k + 1, (cr + p) / 2, l ++ [(cr + p) % 2], by go_num, by go_num, by omega, HL.out, ho1, HS.out, hb1 _ (bA hb0 _)⟩
      case measure => simp [intOf]; have := HL.out; omega
    · have hja : ¬ k < a.length := by rw [HN.out]; exact ca
      have Z1 := hide (dg_out hja)
      have hjb : k < b.length := by rw [HK.out]; exact cb
      obtain ⟨gb, rfl, hcb⟩ := (hb.below hb0).at_ (k := k) hjb
      rw [dg_in hjb] at hcb
      have HS := hide (hJ.out.step HA.out HB.out (.inr (.inl hjb)))
      have HL := hide (hJ.out.step HA.out HB.out (.inr (.inl hjb)) |>.lt HM.out)
      clear hja hjb
      have hA0 := Z1.out
      unfold Hid at HS C1
      rw [hA0] at HS C1
      clear hA0
      simp only [Nat.add_zero] at HS C1
      replace HS := hide HS
      replace C1 := hide C1
      generalize e2 : dg b k = q at *
      clear e2
      go_wp2_with (at_builtin; refine wpList_push rfl _ _ rfl w.heap.size _ l [(cr + q) % 2] _ _ rfl rfl (ho.lift (bA (b0 _) _)) (Rd.oneI _ _ _ (by omega)) C1.out (bA hb0 _).size ?_; intro v1 w1 ho1 hb1 hs1)
      go_roundw
      case rel => exact ⟨k + 1, (cr + q) / 2, l ++ [(cr + q) % 2], by go_num, by go_num, by omega, HL.out, ho1, HS.out, hb1 _ (bA hb0 _)⟩
      case measure => simp [intOf]; have := HL.out; omega
    · by_cases cp : 0 < cr
      · have hja : ¬ k < a.length := by rw [HN.out]; exact ca
        have Z1 := hide (dg_out hja)
        have hjb : ¬ k < b.length := by rw [HK.out]; exact cb
        have Z2 := hide (dg_out hjb)
        have HS := hide (hJ.out.step HA.out HB.out (.inr (.inr cp)))
        have HL := hide (hJ.out.step HA.out HB.out (.inr (.inr cp)) |>.lt HM.out)
        clear hja hjb
        have hA0 := Z1.out
        have hB0 := Z2.out
        unfold Hid at HS C1
        rw [hA0, hB0] at HS C1
        clear hA0 hB0
        simp only [Nat.add_zero] at HS C1
        replace HS := hide HS
        replace C1 := hide C1
        go_wp2_with (at_builtin; refine wpList_push rfl _ _ rfl w.heap.size _ l [(cr) % 2] _ _ rfl rfl (ho.lift (bA (b0 _) _)) (Rd.oneI _ _ _ (by omega)) C1.out (bA hb0 _).size ?_; intro v1 w1 ho1 hb1 hs1)
        go_roundw
        case rel => exact ⟨k + 1, (cr) / 2, l ++ [(cr) % 2], by go_num, by go_num, by omega, HL.out, ho1, HS.out, hb1 _ (bA hb0 _)⟩
        case measure => simp [intOf]; have := HL.out; omega
      · have hja : ¬ k < a.length := by rw [HN.out]; exact ca
        have Z1 := hide (dg_out hja)
        have hjb : ¬ k < b.length := by rw [HK.out]; exact cb
        have Z2 := hide (dg_out hjb)
        have hz : cr = 0 := by omega
        subst hz
        have HF := hide (hJ.out.fin HA.out HB.out hja hjb)
        clear hja hjb
        go_wp2
        go_ret
        exact GivesSz.of_own rfl hb0 ho HF.out
end Go.Proofs.YtmpfbkeamihjbaaGreat

namespace Go.Proofs.YtmpfbkeamihjbaaGreat
open Go.RowKit

/-- what holds behind k digits of a difference -/
structure MinusJ (a b l : List Nat) (k bo : Nat) : Prop where
  len : l.length = k
  bin : Bin l
  c : bo < 2
  sum : bv (a.take k) + 2 ^ k * bo = bv l + bv (b.take k)

theorem MinusJ.step {a b l : List Nat} {k bo r bo' : Nat} (h : MinusJ a b l k bo) (hr : r < 2) (hb' : bo' < 2) (e : dg a k + 2 * bo' = r + bo + dg b k) : MinusJ a b (l ++ [r]) (k + 1) bo' := by
  obtain ⟨hl, hb, hc, hs⟩ := h
  refine ⟨by simp [hl], Bin.append hb (Bin.cons hr Bin.nil), hb', ?_⟩
  rw [take_dg, take_dg, bv_push, hl, Nat.pow_succ]
  have e2 : 2 ^ k * (dg a k + 2 * bo') = 2 ^ k * (r + bo + dg b k) := by rw [e]
  simp only [Nat.mul_add] at e2
  rw [Nat.mul_assoc (2 ^ k) 2 bo']
  omega
theorem MinusJ.fin {x y bo : Nat} {l : List Nat} (h : MinusJ (sz x) (sz y) l (sz x).length bo) (hxy : y ≤ x) : bv l = x - y := by
  obtain ⟨hl, hb, hc, hs⟩ := h
  have hlen : (sz y).length ≤ (sz x).length := by
    by_cases hc : (sz y).length ≤ (sz x).length
    · exact hc
    · have := sz_len_cmp (a := x) (b := y) (by omega)
      omega
  rw [List.take_of_length_le (Nat.le_refl _), List.take_of_length_le hlen, bv_sz, bv_sz] at hs
  have := bv_lt hb
  rw [hl] at this
  rcases (show bo = 0 ∨ bo = 1 by omega) with rfl | rfl
  · omega
  · omega

set_option maxRecDepth 100000 in
set_option maxHeartbeats 2000000 in
theorem ref_minus (x y : Nat) (A B : Option Addr) (c d : Nat) (hx : (sz x).length ≤ 1000) (hxy : y ≤ x) (w : World) (ha : Rd w A c (sz x)) (hb : Rd w B d (sz y)) :
    Calls Tryz.prog 102 #[.slice A (sz x).length c, .slice B (sz y).length d] w (GivesSz (x - y) w) := by
  obtain ⟨a, ea⟩ : ∃ a, a = sz x := ⟨_, rfl⟩
  obtain ⟨b, eb⟩ : ∃ b, b = sz y := ⟨_, rfl⟩
  have lb : (sz y).length ≤ 1000 := by
    by_cases hc : (sz y).length ≤ (sz x).length
    · omega
    · have := sz_len_cmp (a := x) (b := y) (by omega)
      omega
  rw [← ea] at ha hx ⊢
  rw [← eb] at hb lb ⊢
  have HA := hide ea
  have HB := hide eb
  clear ea eb
  obtain ⟨n, hn⟩ : ∃ n, a.length = n := ⟨_, rfl⟩
  obtain ⟨m, hm⟩ : ∃ m, b.length = m := ⟨_, rfl⟩
  rw [hn] at hx ⊢
  rw [hm] at lb ⊢
  have HN := hide hn
  have HK := hide hm
  clear hn hm
  go_enter Tryz.func102, Tryz.ntmps102
  go_wp2
  go_loopw [5, 6, 7] (fun vo vc vi wr => ∃ (k bo : Nat) (l : List Nat), vi = .int .i64 (k : Int) ∧ vc = .int .i64 (bo : Int) ∧ bo < 2 ∧ k ≤ n ∧ Own w.heap.size wr vo l ∧ Hid (MinusJ a b l k bo) ∧ Below w.heap.size w wr) (fun _ _ vi _ => n - (intOf vi).toNat)
  case atStart => exact ⟨0, 0, [], rfl, rfl, by decide, Nat.zero_le _, Own.nil _ _, ⟨rfl, Bin.nil, by decide, by simp [bv]⟩, b0 w⟩
  case round =>
    obtain ⟨k, bo, l, rfl, rfl, hc, hkn, ho, hJ, hb0⟩ := hrel
    have D1 := dg_lt (by rw [HA.out]; exact Bin.sz x : Bin a) k
    have D2 := dg_lt (by rw [HB.out]; exact Bin.sz y : Bin b) k
    have k1 : ∀ r : Nat, l.length + [r].length ≤ 4096 := by intro r; have := hJ.out.len; simp; omega
    have C1 := hide k1
    clear k1
    by_cases ca : k < n
    · by_cases cb : k < m
      · by_cases cn : dg a k < bo + dg b k
        · have hja : k < a.length := by rw [HN.out]; exact ca
          obtain ⟨ga, rfl, hca⟩ := (ha.below hb0).at_ (k := k) hja
          rw [dg_in hja] at hca
          have hjb : k < b.length := by rw [HK.out]; exact cb
          obtain ⟨gb, rfl, hcb⟩ := (hb.below hb0).at_ (k := k) hjb
          rw [dg_in hjb] at hcb
          clear hja hjb
          have HS := hide (hJ.out.step (r := dg a k + 2 - bo - dg b k) (bo' := 1) (by omega) (by decide) (by omega))
          generalize e1 : dg a k = p at *
          clear e1
          generalize e2 : dg b k = q at *
          clear e2
          have ht : (p : Int) - bo - q < 0 := by omega
          go_wp2_with (at_builtin; refine wpList_push rfl _ _ rfl w.heap.size _ l [p + 2 - bo - q] _ _ rfl rfl (ho.lift (bA (b0 _) _)) (Rd.oneI _ _ _ (by omega)) (C1.out _) (bA hb0 _).size ?_; intro v1 w1 ho1 hb1 hs1)
          go_roundw
          case rel => exact ⟨k + 1, 1, l ++ [p + 2 - bo - q], by go_num, by go_num, by decide, by omega, ho1, HS.out, hb1 _ (bA hb0 _)⟩
          case measure => simp [intOf]; omega
        · have hja : k < a.length := by rw [HN.out]; exact ca
          obtain ⟨ga, rfl, hca⟩ := (ha.below hb0).at_ (k := k) hja
          rw [dg_in hja] at hca
          have hjb : k < b.length := by rw [HK.out]; exact cb
          obtain ⟨gb, rfl, hcb⟩ := (hb.below hb0).at_ (k := k) hjb
          rw [dg_in hjb] at hcb
          clear hja hjb
          have HS := hide (hJ.out.step (r := dg a k - bo - dg b k) (bo' := 0) (by omega) (by decide) (by omega))
          generalize e1 : dg a k = p at *
          clear e1
          generalize e2 : dg b k = q at *
          clear e2
          have ht : ¬ (p : Int) - bo - q < 0 := by omega
          go_wp2_with (at_builtin; refine wpList_push rfl _ _ rfl w.heap.size _ l [p - bo - q] _ _ rfl rfl (ho.lift (bA (b0 _) _)) (Rd.oneI _ _ _ (by omega)) (C1.out _) (bA hb0 _).size ?_; intro v1 w1 ho1 hb1 hs1)
          go_roundw
          case rel => exact ⟨k + 1, 0, l ++ [p - bo - q], by go_num, by go_num, by decide, by omega, ho1, HS.out, hb1 _ (bA hb0 _)⟩
          case measure => simp [intOf]; omega
      · by_cases cn : dg a k < bo
        · have hja : k < a.length := by rw [HN.out]; exact ca
          obtain ⟨ga, rfl, hca⟩ := (ha.below hb0).at_ (k := k) hja
          rw [dg_in hja] at hca
          have hjb : ¬ k < b.length := by rw [HK.out]; exact cb
          have Z2 := hide (dg_out hjb)
          clear hja hjb
          have HS := hide (hJ.out.step (r := dg a k + 2 - bo) (bo' := 1) (by have := Z2.out; omega) (by decide) (by have := Z2.out; omega))
          generalize e1 : dg a k = p at *
          clear e1
          have ht : (p : Int) - bo < 0 := by omega
          go_wp2_with (at_builtin; refine wpList_push rfl _ _ rfl w.heap.size _ l [p + 2 - bo] _ _ rfl rfl (ho.lift (bA (b0 _) _)) (Rd.oneI _ _ _ (by omega)) (C1.out _) (bA hb0 _).size ?_; intro v1 w1 ho1 hb1 hs1)
          go_roundw
          case rel => exact ⟨k + 1, 1, l ++ [p + 2 - bo], by go_num, by go_num, by decide, by omega, ho1, HS.out, hb1 _ (bA hb0 _)⟩
          case measure => simp [intOf]; omega
        · have hja : k < a.length := by rw [HN.out]; exact ca
          obtain ⟨ga, rfl, hca⟩ := (ha.below hb0).at_ (k := k) hja
          rw [dg_in hja] at hca
          have hjb : ¬ k < b.length := by rw [HK.out]; exact cb
          have Z2 := hide (dg_out hjb)
          clear hja hjb
          have HS := hide (hJ.out.step (r := dg a k - bo) (bo' := 0) (by have := Z2.out; omega) (by decide) (by have := Z2.out; omega))
          generalize e1 : dg a k = p at *
          clear e1
          have ht : ¬ (p : Int) - bo < 0 := by omega
          go_wp2_with (at_builtin; refine wpList_push rfl _ _ rfl w.heap.size _ l [p - bo] _ _ rfl rfl (ho.lift (bA (b0 _) _)) (Rd.oneI _ _ _ (by omega)) (C1.out _) (bA hb0 _).size ?_; intro v1 w1 ho1 hb1 hs1)
          go_roundw
          case rel => exact ⟨k + 1, 0, l ++ [p - bo], by go_num, by go_num, by decide, by omega, ho1, HS.out, hb1 _ (bA hb0 _)⟩
          case measure => simp [intOf]; omega
    · have hk : k = n := by omega
      subst hk
      have hF : Hid (bv l = x - y) := by
        have := hJ.out
        rw [← HN.out, HA.out, HB.out] at this
        exact this.fin hxy
      have hbin := hJ.out.bin
      have hlen := (C1.out 0)
      obtain ⟨A', c', rfl, hr'⟩ := ho.rd
      have CT := ref_trim A' c' l hbin (by simp at hlen; omega)
      rw [hF.out] at CT
      go_wp2_with fail
      refine (CT _ hr').mono ?_
      rintro e w1 ⟨A2, c2, rfl, hb1, hr1⟩
      go_wp2
      go_ret
      exact ⟨A2, c2, rfl, bB hb0 hb1, hr1⟩
end Go.Proofs.YtmpfbkeamihjbaaGreat

namespace Go.Proofs.YtmpfbkeamihjbaaGreat
open Go.RowKit

theorem drop_le (l : List Nat) (k : Nat) : bv (l.drop k) ≤ bv l := by
  by_cases hk : k ≤ l.length
  · rw [bv_split l k hk]
    have : bv (l.drop k) * 1 ≤ bv (l.drop k) * 2 ^ k := Nat.mul_le_mul_left _ (Nat.one_le_two_pow)
    rw [Nat.mul_comm (bv (l.drop k)) (2 ^ k)] at this
    omega
  · rw [List.drop_eq_nil_of_le (by omega)]; simp [bv]
theorem bv_one (x : Nat) (l : List Nat) : bv ([x] ++ l) = x + 2 * bv l := rfl

set_option maxRecDepth 100000 in
set_option maxHeartbeats 2000000 in
theorem ref_times (x y M : Nat) (A B : Option Addr) (c d : Nat) (hM : M ≤ 900) (hxy : x * y < 2 ^ M) (hx : (sz x).length ≤ 900) (hy : (sz y).length ≤ 900) (w : World) (ha : Rd w A c (sz x)) (hb : Rd w B d (sz y)) :
    Calls Tryz.prog 130 #[.slice A (sz x).length c, .slice B (sz y).length d] w (GivesSz (x * y) w) := by
  obtain ⟨b, eb⟩ : ∃ b, b = sz y := ⟨_, rfl⟩
  have hy2 : bv b = y := by rw [eb, bv_sz]
  have bb : Bin b := by rw [eb]; exact Bin.sz y
  rw [← eb] at hb hy ⊢
  clear eb
  subst hy2
  obtain ⟨m, hm⟩ : ∃ m, b.length = m := ⟨_, rfl⟩
  rw [hm] at hy ⊢
  have HK := hide hm
  have HXY := hide hxy
  clear hm hxy
  go_enter Tryz.func130, Tryz.ntmps130
  go_wp2
  go_loopw [5, 6] (fun vo vi wr => ∃ (k : Nat) (i : Int) (Ao : Option Addr) (co P : Nat), vi = .int .i64 i ∧ i = (k : Int) - 1 ∧ k ≤ m ∧ vo = .slice Ao (sz P).length co ∧ P = x * bv (b.drop k) ∧ Rd wr Ao co (sz P) ∧ Below w.heap.size w wr) (fun _ vi _ => (intOf vi + 1).toNat)
  case atStart => exact ⟨m, _, none, 0, 0, rfl, rfl, Nat.le_refl _, by rw [sz_zero]; rfl, by rw [List.drop_eq_nil_of_le (by rw [HK.out]; exact Nat.le_refl _)]; simp [bv], by rw [sz_zero]; exact Rd.nil _ _ _, b0 w⟩
  case round =>
    obtain ⟨k, i, Ao, co, P, rfl, hi, hk, rfl, hP, hr, hb0⟩ := hrel
    by_cases h0 : k = 0
    · subst h0
      obtain rfl : i = -1 := by omega
      rw [List.drop_zero] at hP
      clear hi
      have HP := hide hP
      clear hP
      go_wp2
      go_ret
      rw [HP.out] at hr ⊢
      exact ⟨Ao, co, rfl, hb0, hr⟩
    · obtain ⟨j, rfl⟩ : ∃ j, k = j + 1 := ⟨k - 1, by omega⟩
      obtain rfl : i = (j : Int) := by omega
      clear hi
      have hjb : j < b.length := by rw [HK.out]; omega
      obtain ⟨gb, rfl, hcb⟩ := (hb.below hb0).at_ (k := j) hjb
      have hd := bv_drop b j hjb
      have hd2 := drop_le b j
      have K2 := bb.get hjb
      obtain ⟨q, hq⟩ : ∃ q, b[j] = q := ⟨_, rfl⟩
      rw [hq] at hd K2 hcb
      have HQ := hide hq
      clear hq
      have e1 : x * bv (b.drop j) = x * q + 2 * P := by rw [hd, hP, Nat.mul_add, Nat.mul_left_comm]
      have e2 : x * bv (b.drop j) ≤ x * bv b := Nat.mul_le_mul_left _ hd2
      have hlt : x * bv (b.drop j) < 2 ^ M := by have := HXY.out; omega
      have lP : (sz P).length ≤ 900 := Nat.le_trans (sz_len_lt (k := M) (by omega)) hM
      have EP := hide e1
      have HLT := hide hlt
      clear hd hd2 hP e1 e2 hlt
      obtain ⟨l1, hl1⟩ : ∃ l1, [0] ++ sz P = l1 := ⟨_, rfl⟩
      have bl1 : Bin l1 := by rw [← hl1]; exact Bin.append (Bin.cons (by decide) Bin.nil) (Bin.sz P)
      have vl1 : bv l1 = 2 * P := by rw [← hl1, bv_one, bv_sz]; omega
      have ll1 : l1.length ≤ 4096 := by rw [← hl1]; simp; omega
      have k1 : [0].length + (sz P).length ≤ 4096 := by simp; omega
      have HL1 := hide hl1
      have VL1 := hide vl1
      clear hl1 vl1
      go_wp2_with (at_builtin; refine wpList_push rfl _ _ rfl wr.heap.size _ [0] (sz P) _ _ rfl rfl (Own.oneI _ _ _ rfl) (hr.below (bA (b0 _) _)) k1 (bA (b0 _) _).size ?_; intro v1 w1 ho1 hb1 hs1)
      rw [HL1.out] at ho1
      obtain ⟨A1, c1, rfl, hr1⟩ := ho1.rd
      have hB1 := bB hb0 (hb1 wr (bA (b0 _) _))
      have CT := ref_trim A1 c1 l1 bl1 ll1 _ hr1
      rw [VL1.out] at CT
      refine CT.mono ?_
      rintro e w2 ⟨A2, c2, rfl, hb2, hr2⟩
      have hB2 := bB hB1 hb2
      obtain ⟨g2, hg2, hcb2⟩ := (hb.below hB2).at_ (k := j) hjb
      obtain rfl : gb = g2 := by simpa using hg2
      rw [HQ.out] at hcb2
      have ha2 := ha.below hB2
      clear hg2 HQ hcb hjb
      rcases (show q = 0 ∨ q = 1 by omega) with rfl | rfl
      · have E2 : Hid (2 * P = x * bv (b.drop j)) := by have := EP.out; rw [Hid]; omega
        go_wp2
        go_roundw
        case rel => exact ⟨j, _, A2, c2, 2 * P, rfl, rfl, by omega, rfl, E2.out, hr2, hB2⟩
        case measure => simp [intOf]
      · have E2 : Hid (2 * P + x = x * bv (b.drop j)) := by have := EP.out; rw [Hid]; omega
        have CP := ref_plus (2 * P) x M A2 A c2 c (by omega) (by rw [E2.out]; exact HLT.out) _ hr2 ha2
        go_wp2_with fail
        refine CP.mono ?_
        rintro e w3 ⟨A3, c3, rfl, hb3, hr3⟩
        go_wp2
        go_roundw
        case rel => exact ⟨j, _, A3, c3, 2 * P + x, rfl, rfl, by omega, rfl, E2.out, hr3, bB hB2 hb3⟩
        case measure => simp [intOf]

/-- what two functions of digits hand back -/
def Gives2 (q r : Nat) (w : World) (e : Ending) (w' : World) : Prop := ∃ A c A' c', e = .returned (.tuple #[.slice A (sz q).length c, .slice A' (sz r).length c']) ∧ Below w.heap.size w w' ∧ Rd w' A c (sz q) ∧ Rd w' A' c' (sz r)

set_option maxRecDepth 100000 in
set_option maxHeartbeats 2000000 in
theorem ref_parts (x y : Nat) (A B : Option Addr) (c d : Nat) (hx : (sz x).length ≤ 900) (hy : (sz y).length ≤ 900) (hy0 : 0 < y) (w : World) (ha : Rd w A c (sz x)) (hb : Rd w B d (sz y)) :
    Calls Tryz.prog 98 #[.slice A (sz x).length c, .slice B (sz y).length d] w (Gives2 (x / y) (x % y) w) := by
  obtain ⟨a, ea⟩ : ∃ a, a = sz x := ⟨_, rfl⟩
  have hx2 : bv a = x := by rw [ea, bv_sz]
  have ba : Bin a := by rw [ea]; exact Bin.sz x
  rw [← ea] at ha hx ⊢
  clear ea
  subst hx2
  obtain ⟨m, hm⟩ : ∃ m, a.length = m := ⟨_, rfl⟩
  rw [hm] at hx ⊢
  have HK := hide hm
  clear hm
  go_enter Tryz.func98, Tryz.ntmps98
  go_wp2
  go_loopw [6, 7, 8] (fun vq vo vi wr => ∃ (k : Nat) (i : Int) (Ao : Option Addr) (co R : Nat) (Aq : Option Addr) (cq : Nat) (q : List Nat), vi = .int .i64 i ∧ i = (k : Int) - 1 ∧ k ≤ m ∧ vo = .slice Ao (sz R).length co ∧ vq = .slice Aq q.length cq ∧ Rd wr Ao co (sz R) ∧ Rd wr Aq cq q ∧ Bin q ∧ Hid (q.length = m - k ∧ bv (a.drop k) = bv q * y + R) ∧ R < y ∧ Below w.heap.size w wr) (fun _ _ vi _ => (intOf vi + 1).toNat)
  case atStart => exact ⟨m, _, none, 0, 0, none, 0, [], rfl, rfl, Nat.le_refl _, by rw [sz_zero]; rfl, rfl, by rw [sz_zero]; exact Rd.nil _ _ _, Rd.nil _ _ _, Bin.nil, ⟨by simp, by rw [List.drop_eq_nil_of_le (by rw [HK.out]; exact Nat.le_refl _)]; simp [bv]⟩, hy0, b0 w⟩
  case round =>
    obtain ⟨k, i, Ao, co, R, Aq, cq, q, rfl, hi, hk, rfl, rfl, hr, hrq, hbq, hP, hR, hb0⟩ := hrel
    have lq : q.length ≤ 900 := by have := hP.out.1; omega
    by_cases h0 : k = 0
    · subst h0
      obtain rfl : i = -1 := by omega
      clear hi
      have e1 : bv q = bv a / y := by
        have := hP.out.2
        rw [List.drop_zero] at this
        rw [this, Nat.mul_comm, Nat.mul_add_div hy0, Nat.div_eq_of_lt hR, Nat.add_zero]
      have e2 : R = bv a % y := by
        have := hP.out.2
        rw [List.drop_zero] at this
        rw [this, Nat.mul_comm, Nat.mul_add_mod, Nat.mod_eq_of_lt hR]
      have E2 := hide e2
      have CT := ref_trim Aq cq q hbq (by omega) _ hrq
      rw [e1] at CT
      clear e1 e2
      go_wp2_with fail
      refine CT.mono ?_
      rintro e w1 ⟨A1, c1, rfl, hb1, hr1⟩
      go_wp2
      have hrf := hr.below hb1
      rw [E2.out] at hrf ⊢
      go_ret2
      exact ⟨A1, c1, Ao, co, rfl, bB hb0 hb1, hr1, hrf⟩
    · obtain ⟨j, rfl⟩ : ∃ j, k = j + 1 := ⟨k - 1, by omega⟩
      obtain rfl : i = (j : Int) := by omega
      clear hi
      have hja : j < a.length := by rw [HK.out]; omega
      obtain ⟨ga, rfl, hca⟩ := (ha.below hb0).at_ (k := j) hja
      have hd := bv_drop a j hja
      have K2 := ba.get hja
      generalize a[j] = p at *
      obtain ⟨hq1, hq2⟩ := hP.out
      rw [hq2] at hd
      have lR : (sz R).length ≤ 900 := by
        by_cases hc : (sz R).length ≤ (sz y).length
        · omega
        · have := sz_len_cmp (a := y) (b := R) (by omega)
          omega
      have HD := hide hd
      have HQ1 := hide hq1
      clear hd hq1 hq2 hP hja
      obtain ⟨l1, hl1⟩ : ∃ l1, [p] ++ sz R = l1 := ⟨_, rfl⟩
      have bl1 : Bin l1 := by rw [← hl1]; exact Bin.append (Bin.cons K2 Bin.nil) (Bin.sz R)
      have vl1 : bv l1 = p + 2 * R := by rw [← hl1, bv_one, bv_sz]
      have ll1 : l1.length ≤ 4096 := by rw [← hl1]; simp; omega
      have k1 : [p].length + (sz R).length ≤ 4096 := by simp; omega
      have HL1 := hide hl1
      have VL1 := hide vl1
      clear hl1 vl1
      go_wp2_with (at_builtin; refine wpList_push rfl _ _ rfl wr.heap.size _ [p] (sz R) _ _ rfl rfl (Own.oneI _ _ _ rfl) (hr.below (bA (b0 _) _)) k1 (bA (b0 _) _).size ?_; intro v1 w1 ho1 hb1 hs1)
      rw [HL1.out] at ho1
      obtain ⟨A1, c1, rfl, hr1⟩ := ho1.rd
      have hX1 := hb1 wr (bA (b0 _) _)
      have hB1 := bB hb0 hX1
      have CT := ref_trim A1 c1 l1 bl1 ll1 _ hr1
      rw [VL1.out] at CT
      refine CT.mono ?_
      rintro e w2 ⟨A2, c2, rfl, hb2, hr2⟩
      have hB2 := bB hB1 hb2
      have hq2 := (hrq.below hX1).below hb2
      have hy2 := hb.below hB2
      have l2 : (sz (p + 2 * R)).length ≤ 901 := by
        have h1 := bv_lt (Bin.sz y)
        rw [bv_sz] at h1
        have := sz_len_lt (n := p + 2 * R) (k := (sz y).length + 1) (by rw [Nat.pow_succ]; omega)
        omega
      have CL := ref_less (p + 2 * R) y A2 B c2 d (by omega) (by omega) _ hr2 hy2
      by_cases hlt : p + 2 * R < y
      · rw [decide_eq_true hlt] at CL
        go_wp2_with fail
        refine CL.mono ?_
        rintro e w3 ⟨rfl, hb3⟩
        have hq3 := hq2.below hb3
        have hr3 := hr2.below hb3
        have k2 : [0].length + q.length ≤ 4096 := by simp; omega
        have E2 : Hid (([0] ++ q).length = m - j ∧ bv (a.drop j) = bv ([0] ++ q) * y + (p + 2 * R)) := by
          have h1 := HD.out
          have h2 := HQ1.out
          refine ⟨by simp; omega, ?_⟩
          rw [bv_one, h1, Nat.mul_add, Nat.zero_add, Nat.mul_assoc]
          omega
        go_wp2_with (at_builtin; refine wpList_push rfl _ _ rfl w3.heap.size _ [0] q _ _ rfl rfl (Own.oneI _ _ _ rfl) (hq3.below (bA (b0 _) _)) k2 (bA (b0 _) _).size ?_; intro v4 w4 ho4 hb4 hs4)
        obtain ⟨A4, c4, rfl, hr4⟩ := ho4.rd
        have hX4 := hb4 w3 (bA (b0 _) _)
        go_roundw
        case rel => exact ⟨j, _, A2, c2, p + 2 * R, A4, c4, [0] ++ q, rfl, rfl, by omega, rfl, rfl, hr3.below hX4, hr4, Bin.append (Bin.cons (by decide) Bin.nil) hbq, E2.out, hlt, bB (bB hB2 hb3) hX4⟩
        case measure => simp [intOf]
      · rw [decide_eq_false hlt] at CL
        go_wp2_with fail
        refine CL.mono ?_
        rintro e w3 ⟨rfl, hb3⟩
        have hq3 := hq2.below hb3
        have hr3 := hr2.below hb3
        have CM := ref_minus (p + 2 * R) y A2 B c2 d (by omega) (by omega) _ hr3 (hy2.below hb3)
        go_wp2_with fail
        refine CM.mono ?_
        rintro e w5 ⟨A5, c5, rfl, hb5, hr5⟩
        have hq5 := hq3.below hb5
        have k2 : [1].length + q.length ≤ 4096 := by simp; omega
        have E2 : Hid (([1] ++ q).length = m - j ∧ bv (a.drop j) = bv ([1] ++ q) * y + (p + 2 * R - y)) := by
          have h1 := HD.out
          have h2 := HQ1.out
          refine ⟨by simp; omega, ?_⟩
          rw [bv_one, h1, Nat.mul_add, Nat.add_mul, Nat.one_mul, Nat.mul_assoc]
          omega
        go_wp2_with (at_builtin; refine wpList_push rfl _ _ rfl w5.heap.size _ [1] q _ _ rfl rfl (Own.oneI _ _ _ rfl) (hq5.below (bA (b0 _) _)) k2 (bA (b0 _) _).size ?_; intro v4 w4 ho4 hb4 hs4)
        obtain ⟨A4, c4, rfl, hr4⟩ := ho4.rd
        have hX4 := hb4 w5 (bA (b0 _) _)
        go_roundw
        case rel => exact ⟨j, _, A5, c5, p + 2 * R - y, A4, c4, [1] ++ q, rfl, rfl, by omega, rfl, rfl, hr5.below hX4, hr4, Bin.append (Bin.cons (by decide) Bin.nil) hbq, E2.out, by omega, bB (bB (bB hB2 hb3) hb5) hX4⟩
        case measure => simp [intOf]
end Go.Proofs.YtmpfbkeamihjbaaGreat

namespace Go.Proofs.YtmpfbkeamihjbaaGreat
open Go.RowKit

/-- a value is a slice of a number's digits -/
def SlIs (n : Nat) (v : Value) (w : World) : Prop := ∃ A c, v = .slice A (sz n).length c ∧ Rd w A c (sz n)
theorem SlIs.rd {n m : Nat} {A : Option Addr} {c : Nat} {w : World} (h : SlIs n (.slice A m c) w) : Rd w A c (sz n) := by
  obtain ⟨A', c', e, hr⟩ := h
  injection e with e1 e2 e3
  subst e1 e3
  exact hr
theorem Cl_SlIs (n : Nat) {v : Value} : Abs.Cl (fun _ => False) (SlIs n v) := by
  intro w w' ⟨A, c, e, hr⟩ h
  refine ⟨A, c, e, hr.cap, fun hl => ?_⟩
  obtain ⟨g, cur, e1, hg, hc⟩ := hr.mem hl
  exact ⟨g, cur, e1, (h.block g (Array.getElem?_eq_some_iff.1 hg).1 (fun hf => hf)).trans hg, hc⟩
theorem GivesSz.sl {n : Nat} {w w' : World} {e : Ending} (h : GivesSz n w e w') : ∃ v, e = .returned v ∧ Below w.heap.size w w' ∧ SlIs n v w' := by
  obtain ⟨A, c, he, hb, hr⟩ := h
  exact ⟨_, he, hb, A, c, rfl, hr⟩
def GivesNum (x : Int) (w : World) (e : Ending) (w' : World) : Prop := ∃ A c, e = .returned (.agg #[.bool (decide (x < 0)), .slice A (sz x.natAbs).length c]) ∧ Below w.heap.size w w' ∧ Rd w' A c (sz x.natAbs)

theorem sz_len0 (n : Nat) : (0 : Int) < ((sz n).length : Int) ↔ n ≠ 0 := by
  have := sz_nil (n := n)
  by_cases h : n = 0
  · subst h; rw [sz_zero]; simp
  · have h2 : sz n ≠ [] := fun e => h (this.1 e)
    have := List.length_pos_iff.2 h2
    constructor
    · intro _; exact h
    · intro _; omega

theorem ref_made (b : Bool) (n : Nat) (A : Option Addr) (c : Nat) (w : World) :
    Calls Tryz.prog 99 #[.bool b, .slice A (sz n).length c] w fun e w' => e = .returned (.agg #[.bool (b && decide (n ≠ 0)), .slice A (sz n).length c]) ∧ Below w.heap.size w w' := by
  have h := sz_len0 n
  have hd : decide ((0 : Int) < ((sz n).length : Int)) = decide (n ≠ 0) := decide_eq_decide.2 h
  rw [← hd]
  clear hd h
  generalize (sz n).length = m at *
  cases b
  all_goals
    go_enter Tryz.func99, Tryz.ntmps99
    go_wp2
    refine bodyPost_ret (by simp [results, Tryz.results99, go_sem]; try rfl) rfl ⟨?_, bA (b0 w) _⟩
    simp

set_option maxRecDepth 100000 in
set_option maxHeartbeats 1000000 in
theorem ref_Int (x : Int) (h1 : -9223372036854775808 ≤ x) (h2 : x < 9223372036854775808) (w : World) :
    Calls Tryz.prog 83 #[.int .i64 x] w (GivesNum x w) := by
  by_cases hx : x < 0
  · have hd : decide (x < 0) = true := decide_eq_true hx
    obtain ⟨u, hu⟩ : ∃ u : Nat, IntKind.u64.wrap x = (u : Int) := ⟨(x + 18446744073709551616).toNat, by rw [IntKind.wrap_u64]; omega⟩
    have hu2 : (u : Int) = x + 18446744073709551616 := by rw [← hu, IntKind.wrap_u64]; omega
    have e3 : 2 ^ 64 - u = x.natAbs := by omega
    have c1 := ref_Size u (by omega)
    have c2 := ref_power 64 (by decide)
    have l1 : (sz (2 ^ 64)).length ≤ 1000 := Nat.le_trans (sz_len_lt (k := 65) (by decide)) (by decide)
    have c3 := fun A B c d w ha hb => ref_minus (2 ^ 64) u A B c d l1 (by omega) w ha hb
    rw [e3] at c3
    have hn0 : x.natAbs ≠ 0 := by omega
    have c4 := fun A c => ref_made true x.natAbs A c
    rw [decide_eq_true hn0] at c4
    have HU := hide hu2
    clear hu2 e3 hn0 l1
    go_enter Tryz.func83, Tryz.ntmps83
    go_wp2_with fail
    refine (c1 _).mono ?_
    rintro e w1 ⟨A1, d1, rfl, hb1, rn_s1⟩
    have f_o1 := kp hb1 (na w #[.bool false, .slice none 0 0] 127)
    have hB1 := bB (bA (b0 w) (.cells #[.bool false, .slice none 0 0] 127)) hb1
    obtain ⟨zo_a, zo_b, lo1⟩ := rcell f_o1
    go_wp2_with fail
    refine (c2 _).mono ?_
    rintro e w2 ⟨A2, d2, rfl, hb2, rn_s2⟩
    have f_o2 := kp hb2 (f_o1)
    have rd_s12 := rn_s1.below hb2
    have hB2 := bB hB1 hb2
    clear zo_a zo_b
    obtain ⟨zo_a, zo_b, lo2⟩ := rcell f_o2
    go_wp2_with fail
    refine (c3 A2 A1 d2 d1 _ rn_s2 rd_s12).mono ?_
    rintro e w3 ⟨A3, d3, rfl, hb3, rn_s3⟩
    have f_o3 := kp hb3 (f_o2)
    have rd_s13 := rd_s12.below hb3
    have rd_s23 := rn_s2.below hb3
    have hB3 := bB hB2 hb3
    clear zo_a zo_b
    obtain ⟨zo_a, zo_b, lo3⟩ := rcell f_o3
    go_wp2_with fail
    refine (c4 A3 d3 _).mono ?_
    rintro e w4 ⟨rfl, hb4⟩
    have f_o4 := kp hb4 (f_o3)
    have rd_s14 := rd_s13.below hb4
    have rd_s24 := rd_s23.below hb4
    have rd_s34 := rn_s3.below hb4
    have hB4 := bB hB3 hb4
    clear zo_a zo_b
    obtain ⟨zo_a, zo_b, lo4⟩ := rcell f_o4
    go_wp2_with fail
    rw [row2 f_o4]
    generalize hT5 : setRow _ _ _ = w5
    obtain ⟨hx5, f_o5⟩ := fin_x (b0 _) f_o4 hT5
    clear hT5
    have rd_s15 := rd_s14.exc hx5 (f_o4) (by decide)
    have rd_s25 := rd_s24.exc hx5 (f_o4) (by decide)
    have rd_s35 := rd_s34.exc hx5 (f_o4) (by decide)
    have hB5 := bX hB4 hx5 (by omega)
    clear zo_a zo_b
    obtain ⟨zo_a, zo_b, lo5⟩ := rcell f_o5
    refine bodyPost_ret (by simp [results, Tryz.results83, go_sem, zo_a]; try rfl) rfl ⟨A3, d3, by rw [hd], hB5, rd_s35⟩
  · have hd : decide (x < 0) = false := decide_eq_false hx
    obtain ⟨u, hu⟩ : ∃ u : Nat, IntKind.u64.wrap x = (u : Int) := ⟨x.toNat, by have := IntKind.wrap_u64 x; omega⟩
    have e3 : u = x.natAbs := by have := hu; rw [IntKind.wrap_u64] at this; omega
    have c1 := ref_Size u (by omega)
    have c4 := fun A c => ref_made false u A c
    rw [e3] at c1 c4 hu
    have hu2 : x = (x.natAbs : Int) := by omega
    generalize x.natAbs = m at *
    subst hu2
    clear hu e3 hx
    go_enter Tryz.func83, Tryz.ntmps83
    go_wp2_with fail
    refine (c1 _).mono ?_
    rintro e w1 ⟨A1, d1, rfl, hb1, rn_s1⟩
    have f_o1 := kp hb1 (na w #[.bool false, .slice none 0 0] 127)
    have hB1 := bB (bA (b0 w) (.cells #[.bool false, .slice none 0 0] 127)) hb1
    obtain ⟨zo_a, zo_b, lo1⟩ := rcell f_o1
    go_wp2_with fail
    refine (c4 A1 d1 _).mono ?_
    rintro e w2 ⟨rfl, hb2⟩
    have f_o2 := kp hb2 (f_o1)
    have rd_s12 := rn_s1.below hb2
    have hB2 := bB hB1 hb2
    clear zo_a zo_b
    obtain ⟨zo_a, zo_b, lo2⟩ := rcell f_o2
    go_wp2_with fail
    rw [row2 f_o2]
    generalize hT3 : setRow _ _ _ = w3
    obtain ⟨hx3, f_o3⟩ := fin_x (b0 _) f_o2 hT3
    clear hT3
    have rd_s13 := rd_s12.exc hx3 (f_o2) (by decide)
    have hB3 := bX hB2 hx3 (by omega)
    clear zo_a zo_b
    obtain ⟨zo_a, zo_b, lo3⟩ := rcell f_o3
    refine bodyPost_ret (by simp [results, Tryz.results83, go_sem, zo_a]; try rfl) rfl ⟨A1, d1, by rw [hd]; rfl, hB3, rd_s13⟩

set_option maxRecDepth 100000 in
set_option maxHeartbeats 1000000 in
theorem ref_Mul (x y : Int) (M : Nat) (A B : Option Addr) (c d : Nat) (hM : M ≤ 900) (hxy : x.natAbs * y.natAbs < 2 ^ M) (lx : (sz x.natAbs).length ≤ 900) (ly : (sz y.natAbs).length ≤ 900) (w : World) (ha : Rd w A c (sz x.natAbs)) (hb : Rd w B d (sz y.natAbs)) :
    Calls Tryz.prog 104 #[.agg #[.bool (decide (x < 0)), .slice A (sz x.natAbs).length c], .agg #[.bool (decide (y < 0)), .slice B (sz y.natAbs).length d]] w (GivesNum (x * y) w) := by
  have hs : (decide (x < 0) != decide (y < 0) && decide ((x * y).natAbs ≠ 0)) = decide (x * y < 0) := by
    by_cases h1 : x < 0 <;> by_cases h2 : y < 0
    · have : 0 < x * y := by have := Int.mul_pos (a := -x) (b := -y) (by omega) (by omega); rw [Int.neg_mul_neg] at this; exact this
      simp [h1, h2]; omega
    · by_cases h3 : y = 0
      · subst h3; simp
      · have : x * y < 0 := Int.mul_neg_of_neg_of_pos h1 (by omega)
        simp [h1, h2, this]; omega
    · by_cases h3 : x = 0
      · subst h3; simp
      · have : x * y < 0 := Int.mul_neg_of_pos_of_neg (by omega) h2
        simp [h1, h2, this]; omega
    · have : 0 ≤ x * y := Int.mul_nonneg (by omega) (by omega)
      simp [h1, h2]; omega
  have hn : x.natAbs * y.natAbs = (x * y).natAbs := (Int.natAbs_mul x y).symm
  have c1 := fun w ha hb => ref_times x.natAbs y.natAbs M A B c d hM hxy lx ly w ha hb
  rw [hn] at c1
  have c2 := fun b A c => ref_made b (x * y).natAbs A c
  have HS := hide hs
  clear hs hn hxy lx ly
  generalize x * y = z at *
  generalize hp : decide (x < 0) = p at *
  generalize hq : decide (y < 0) = q at *
  clear hp hq
  go_enter Tryz.func104, Tryz.ntmps104
  go_wp2_with fail
  have f_a1 := (ka (ka (na w #[.bool p, .slice A (sz x.natAbs).length c] 127) (.cells #[.bool q, .slice B (sz y.natAbs).length d] 127)) (.cells #[.bool false, .slice none 0 0] 127))
  have f_b1 := (ka (na1 w (.cells #[.bool p, .slice A (sz x.natAbs).length c] 127) #[.bool q, .slice B (sz y.natAbs).length d] 127) (.cells #[.bool false, .slice none 0 0] 127))
  have f_o1 := (na2 w (.cells #[.bool p, .slice A (sz x.natAbs).length c] 127) (.cells #[.bool q, .slice B (sz y.natAbs).length d] 127) #[.bool false, .slice none 0 0] 127)
  have rd_a1 := (ha.below (bA (bA (bA (b0 _) (.cells #[.bool p, .slice A (sz x.natAbs).length c] 127)) (.cells #[.bool q, .slice B (sz y.natAbs).length d] 127)) (.cells #[.bool false, .slice none 0 0] 127)))
  have rd_b1 := (hb.below (bA (bA (bA (b0 _) (.cells #[.bool p, .slice A (sz x.natAbs).length c] 127)) (.cells #[.bool q, .slice B (sz y.natAbs).length d] 127)) (.cells #[.bool false, .slice none 0 0] 127)))
  have hB1 := (bA (bA (bA (b0 w) (.cells #[.bool p, .slice A (sz x.natAbs).length c] 127)) (.cells #[.bool q, .slice B (sz y.natAbs).length d] 127)) (.cells #[.bool false, .slice none 0 0] 127))
  have la1 := (rcell f_a1).2.2
  have lb1 := (rcell f_b1).2.2
  have lo1 := (rcell f_o1).2.2
  refine Abs.wp_region_abs (Abs.cls0 _) [0, 1, 2, 3, 4, 5, 6, 7, 8, 9, 10, 11] (by kernel_rfl) (by kernel_rfl) (Below.refl _ _).drew ?_
  repeat (first | (refine Abs.step_pure rfl rfl (fun K hK => ?_); go_simp; (try go_bits); (first | refine hK _ _ ?_ | (simp only [↓IntWalk.iteOmega]; go_simp; (try go_bits); refine hK _ _ ?_)); clear hK K) | (refine Abs.step_load (v := ?_) rfl rfl (by kernel_rfl) rfl (fun w0 hI => ?_) (fun K hK => ?_); rotate_left; (· have z0 := (rcell (kp hI (f_a1))).1; have z1 := (rcell (kp hI (f_b1))).1; go_simp; rfl); (simp only [Act.put, List.setIfInBounds_toArray, List.set_cons_zero, List.set_cons_succ]; refine hK _ _ ?_; clear hK K)) | (refine Abs.step_skip rfl rfl (fun K hK => ?_); (simp only [Act.put, List.setIfInBounds_toArray, List.set_cons_zero, List.set_cons_succ]; refine hK _ _ ?_; clear hK K)))
  (refine Abs.step_call (f := ?_) (args := ?_) rfl rfl rfl rfl (SlIs (z.natAbs)) (fun _ => Cl_SlIs _) (fun w0 => ?_) (fun w0 hI hF => ?_) (fun K hK v w0 hv => ?_); rotate_left 2; (· go_simp; (constructor <;> rfl)); (· exact (c1 _ (rd_a1.below hI) (rd_b1.below hI)).mono (fun _ _ h => h.sl)); (obtain ⟨A3, d3, rfl, -⟩ := hv; clear w0; simp only [Act.put, List.setIfInBounds_toArray, List.set_cons_zero, List.set_cons_succ]; refine hK _ _ ?_; clear hK K))
  repeat (first | (refine Abs.step_pure rfl rfl (fun K hK => ?_); go_simp; (try go_bits); (first | refine hK _ _ ?_ | (simp only [↓IntWalk.iteOmega]; go_simp; (try go_bits); refine hK _ _ ?_)); clear hK K) | (refine Abs.step_load (v := ?_) rfl rfl (by kernel_rfl) rfl (fun w0 hI => ?_) (fun K hK => ?_); rotate_left; (· have z0 := (rcell (kp hI (f_a1))).1; have z1 := (rcell (kp hI (f_b1))).1; go_simp; rfl); (simp only [Act.put, List.setIfInBounds_toArray, List.set_cons_zero, List.set_cons_succ]; refine hK _ _ ?_; clear hK K)) | (refine Abs.step_skip rfl rfl (fun K hK => ?_); (simp only [Act.put, List.setIfInBounds_toArray, List.set_cons_zero, List.set_cons_succ]; refine hK _ _ ?_; clear hK K)))
  (refine Abs.step_call_val (f := ?_) (args := ?_) (v := ?_) rfl rfl rfl rfl (fun w0 => ?_) (fun w0 hI => ?_) (fun K hK => ?_); rotate_left 3; (· go_simp; (constructor <;> rfl)); (· exact c2 _ _ _ _); (simp only [Act.put, List.setIfInBounds_toArray, List.set_cons_zero, List.set_cons_succ]; refine hK _ _ ?_; clear hK K))
  repeat (first | (refine Abs.step_pure rfl rfl (fun K hK => ?_); go_simp; (try go_bits); (first | refine hK _ _ ?_ | (simp only [↓IntWalk.iteOmega]; go_simp; (try go_bits); refine hK _ _ ?_)); clear hK K) | (refine Abs.step_load (v := ?_) rfl rfl (by kernel_rfl) rfl (fun w0 hI => ?_) (fun K hK => ?_); rotate_left; (· have z0 := (rcell (kp hI (f_a1))).1; have z1 := (rcell (kp hI (f_b1))).1; go_simp; rfl); (simp only [Act.put, List.setIfInBounds_toArray, List.set_cons_zero, List.set_cons_succ]; refine hK _ _ ?_; clear hK K)) | (refine Abs.step_skip rfl rfl (fun K hK => ?_); (simp only [Act.put, List.setIfInBounds_toArray, List.set_cons_zero, List.set_cons_succ]; refine hK _ _ ?_; clear hK K)))
  (refine Abs.step_store (T := ?_) rfl rfl rfl (fun w0 hI hF hU => ?_) (fun w0 hI hU hJ => ?_) (fun K hK => ?_); rotate_left; (· have hR := kp hI (f_o1); have hg0 := (rcell hR).1; have hg1 := (rcell hR).2.1; simp only [Abs.T_setF, Abs.T_addA, Abs.T_push, Abs.T_start]; go_simp; exact row2 hR _ _); (· first | exact trivial | exact js hJ rfl _ | exact js hJ (Or.inl rfl) _ | exact js hJ (Or.inr rfl) _); (simp only [Act.put, List.setIfInBounds_toArray, List.set_cons_zero, List.set_cons_succ]; refine hK _ _ ?_; clear hK K))
  repeat (first | (refine Abs.step_pure rfl rfl (fun K hK => ?_); go_simp; (try go_bits); (first | refine hK _ _ ?_ | (simp only [↓IntWalk.iteOmega]; go_simp; (try go_bits); refine hK _ _ ?_)); clear hK K) | (refine Abs.step_load (v := ?_) rfl rfl (by kernel_rfl) rfl (fun w0 hI => ?_) (fun K hK => ?_); rotate_left; (· have z0 := (rcell (kp hI (f_a1))).1; have z1 := (rcell (kp hI (f_b1))).1; go_simp; rfl); (simp only [Act.put, List.setIfInBounds_toArray, List.set_cons_zero, List.set_cons_succ]; refine hK _ _ ?_; clear hK K)) | (refine Abs.step_skip rfl rfl (fun K hK => ?_); (simp only [Act.put, List.setIfInBounds_toArray, List.set_cons_zero, List.set_cons_succ]; refine hK _ _ ?_; clear hK K)))
  intro w0 hI hF hx1 hx2
  clear hx1 hx2
  simp only [Abs.T_push]
  have rn_s := (((hF 9).2 rfl)).rd
  clear hF
  have hQ := kp hI (f_o1)
  generalize hT2 : setRow w0 _ _ = w2
  have hy := (fin_x (b0 _) hQ hT2).1
  replace rn_s := rn_s.exc hy hQ (by decide)
  obtain ⟨hx2, f_o2⟩ := fin_x hI (f_o1) hT2
  clear hT2 hQ hy hI w0
  have f_a2 := kx hx2 (f_a1) (by omega)
  have f_b2 := kx hx2 (f_b1) (by omega)
  have rd_a2 := rd_a1.exc hx2 (f_o1) (by decide)
  have rd_b2 := rd_b1.exc hx2 (f_o1) (by decide)
  have hB2 := bX hB1 hx2 (by omega)
  obtain ⟨za_a, za_b, la2⟩ := rcell f_a2
  obtain ⟨zb_a, zb_b, lb2⟩ := rcell f_b2
  obtain ⟨zo_a, zo_b, lo2⟩ := rcell f_o2
  go_wp2
  refine bodyPost_ret (by simp [results, Tryz.results104, go_sem, zo_a]; try rfl) rfl ⟨A3, d3, ?_, hB2, rn_s⟩
  rw [← HS.out]
  cases p <;> cases q <;> simp

end Go.Proofs.YtmpfbkeamihjbaaGreat

namespace Go.Proofs.YtmpfbkeamihjbaaGreat
open Go.RowKit

/-- a value is a number -/
def NumIs (x : Int) (v : Value) (w : World) : Prop := ∃ A c, v = .agg #[.bool (decide (x < 0)), .slice A (sz x.natAbs).length c] ∧ Rd w A c (sz x.natAbs)
theorem NumIs.rd {x : Int} {A : Option Addr} {b : Bool} {m c : Nat} {w : World} (h : NumIs x (.agg #[.bool b, .slice A m c]) w) : Rd w A c (sz x.natAbs) := by
  obtain ⟨A', c', e, hr⟩ := h
  simp at e
  obtain ⟨_, rfl, _, rfl⟩ := e
  exact hr
theorem Cl_NumIs (x : Int) {v : Value} : Abs.Cl (fun _ => False) (NumIs x v) := by
  intro w w' ⟨A, c, e, hr⟩ h
  refine ⟨A, c, e, hr.cap, fun hl => ?_⟩
  obtain ⟨g, cur, e1, hg, hc⟩ := hr.mem hl
  exact ⟨g, cur, e1, (h.block g (Array.getElem?_eq_some_iff.1 hg).1 (fun hf => hf)).trans hg, hc⟩
theorem GivesNum.num {x : Int} {w w' : World} {e : Ending} (h : GivesNum x w e w') : ∃ v, e = .returned v ∧ Below w.heap.size w w' ∧ NumIs x v w' := by
  obtain ⟨A, c, he, hb, hr⟩ := h
  exact ⟨_, he, hb, A, c, rfl, hr⟩

theorem ref_Slope (N D : Int) (w : World) : Calls Tryz.prog 60 #[.agg #[.int .i64 N, .int .i64 D]] w fun e w' => e = .returned (.bool (slB N D)) ∧ Below w.heap.size w w' := by
  by_cases h1 : 1 ≤ D
  · by_cases h2 : D ≤ 281474976710656
    · by_cases h3 : -4611688217450643456 ≤ N
      · by_cases h4 : N ≤ 4611688217450643456
        · have hb : slB N D = true := decide_eq_true ⟨h1, h2, h3, h4⟩
          rw [hb]
          clear hb
          go_enter Tryz.func60, Tryz.ntmps60
          go_wp2
          go_ret
          exact ⟨rfl, (bA (b0 w) _)⟩
        · have hb : slB N D = false := decide_eq_false fun h => h4 h.2.2.2
          rw [hb]
          clear hb
          go_enter Tryz.func60, Tryz.ntmps60
          go_wp2
          go_ret
          exact ⟨rfl, (bA (b0 w) _)⟩
      · have hb : slB N D = false := decide_eq_false fun h => h3 h.2.2.1
        rw [hb]
        clear hb
        go_enter Tryz.func60, Tryz.ntmps60
        go_wp2
        go_ret
        exact ⟨rfl, (bA (b0 w) _)⟩
    · have hb : slB N D = false := decide_eq_false fun h => h2 h.2.1
      rw [hb]
      clear hb
      go_enter Tryz.func60, Tryz.ntmps60
      go_wp2
      go_ret
      exact ⟨rfl, (bA (b0 w) _)⟩
  · have hb : slB N D = false := decide_eq_false fun h => h1 h.1
    rw [hb]
    clear hb
    go_enter Tryz.func60, Tryz.ntmps60
    go_wp2
    go_ret
    exact ⟨rfl, (bA (b0 w) _)⟩

theorem gcd_mod_l (a b : Nat) : Nat.gcd (a % b) b = Nat.gcd a b := by rw [Nat.gcd_comm a b, ← Nat.gcd_rec, Nat.gcd_comm]
theorem gcd_mod_r (a b : Nat) : Nat.gcd a (b % a) = Nat.gcd a b := by rw [Nat.gcd_comm, ← Nat.gcd_rec]

set_option maxRecDepth 100000 in
set_option maxHeartbeats 1000000 in
theorem ref_Common (n d : Nat) (x : Int) (hx : x = n ∨ x = -n) (hn : n < 9223372036854775808) (hd : d < 9223372036854775808) (w : World) :
    Calls Tryz.prog 80 #[.int .i64 x, .int .i64 (d : Int)] w fun e w' => e = .returned (.int .i64 (Nat.gcd n d : Nat)) ∧ w = w' := by
  rcases (show (0 ≤ x ∧ x = n) ∨ (x < 0 ∧ x = -n) by omega) with ⟨hs, rfl⟩ | ⟨hs, rfl⟩
  all_goals
    go_enter Tryz.func80, Tryz.ntmps80
    go_wp2
    go_loop [0, 1] (fun va vb => ∃ a b : Nat, va = .int .i64 (a : Int) ∧ vb = .int .i64 (b : Int) ∧ a < 9223372036854775808 ∧ b < 9223372036854775808 ∧ Hid (Nat.gcd a b = Nat.gcd n d)) (fun va vb => (intOf va + intOf vb).toNat)
    case atStart => exact ⟨n, d, by first | rfl | simp, rfl, hn, hd, rfl⟩
    case round =>
      obtain ⟨a, b, rfl, rfl, ha, hb, hg⟩ := hrel
      by_cases h1 : a = 0
      · subst h1
        have hq : ¬ (0 : Int) < ((0 : Nat) : Int) := by omega
        go_wp2
        go_ret
        have e := hg.out
        rw [Nat.gcd_zero_left] at e
        exact ⟨by rw [← e]; rfl, rfl⟩
      · have hp : (0 : Int) < (a : Int) := by omega
        by_cases h2 : b = 0
        · subst h2
          have hq : ¬ (0 : Int) < ((0 : Nat) : Int) := by omega
          go_wp2
          go_ret
          have e := hg.out
          rw [Nat.gcd_zero_right] at e
          exact ⟨by rw [← e]; rfl, rfl⟩
        · have hq : (0 : Int) < (b : Int) := by omega
          have nz1 : ¬ (a : Int) = 0 := by omega
          have nz2 : ¬ (b : Int) = 0 := by omega
          by_cases h3 : b < a
          · have h4 : (b : Int) < (a : Int) := by omega
            have m1 : a % b < b := Nat.mod_lt _ (by omega)
            have hT := hide (gcd_mod_l a b)
            go_wp2
            go_round
            case rel => exact ⟨a % b, b, by go_num, rfl, by omega, hb, hT.out.trans hg.out⟩
            case measure => simp [intOf]; omega
          · have h4 : ¬ (b : Int) < (a : Int) := by omega
            have m1 : b % a < a := Nat.mod_lt _ (by omega)
            have hT := hide (gcd_mod_r a b)
            go_wp2
            go_round
            case rel => exact ⟨a, b % a, rfl, by go_num, ha, by omega, hT.out.trans hg.out⟩
            case measure => simp [intOf]; omega

set_option maxHeartbeats 1000000 in
theorem ref_Lowest (N D : Int) (hD : 1 ≤ D) (hD' : D < 9223372036854775808) (h1 : -9223372036854775808 < N) (h2 : N < 9223372036854775808) (w : World) :
    Calls Tryz.prog 61 #[.agg #[.int .i64 N, .int .i64 D]] w fun e w' => e = .returned (.agg #[.int .i64 (lwN N D), .int .i64 (lwD N D)]) ∧ Below w.heap.size w w' := by
  have d := ref_Common N.natAbs D.toNat N (by omega) (by omega) (by omega)
  rw [show ((D.toNat : Nat) : Int) = D by omega] at d
  have p1 := dvN_pos (N := N) hD
  obtain ⟨p3, p4⟩ := lwN_bd (N := N) hD
  have p5 := lwD_pos (N := N) hD
  have p6 := lwD_le (N := N) hD
  have t1 : N.tdiv (dvN N D : Int) = lwN N D := Int.tdiv_eq_ediv_of_dvd (dvN_dvdN N D)
  have t2 : D.tdiv (dvN N D : Int) = lwD N D := Int.tdiv_eq_ediv_of_dvd (dvN_dvdD hD)
  have t3 : D / (dvN N D : Int) = lwD N D := rfl
  have t4 : N / (dvN N D : Int) = lwN N D := rfl
  change ∀ w, Calls _ _ _ w fun e w' => e = .returned (.int .i64 (dvN N D : Nat)) ∧ w = w' at d
  generalize lwN N D = n' at *
  generalize lwD N D = d' at *
  generalize dvN N D = g at *
  have nz : ¬ (g : Int) = 0 := by omega
  have b1 : -9223372036854775808 ≤ n' := by omega
  have b2 : n' < 9223372036854775808 := by omega
  clear p3 p4
  go_enter Tryz.func61, Tryz.ntmps61
  go_wp2_with fail
  refine (d _).mono ?_
  rintro e wq ⟨rfl, rfl⟩
  go_wp2_with fail
  have f_s1 := (ka (na w #[.int .i64 N, .int .i64 D] 97) (.cells #[.int .i64 0, .int .i64 0] 97))
  have f_o1 := (na1 w (.cells #[.int .i64 N, .int .i64 D] 97) #[.int .i64 0, .int .i64 0] 97)
  have hB1 := (bA (bA (b0 w) (.cells #[.int .i64 N, .int .i64 D] 97)) (.cells #[.int .i64 0, .int .i64 0] 97))
  have ls1 := (rcell f_s1).2.2
  have lo1 := (rcell f_o1).2.2
  refine Abs.wp_region_abs (Abs.cls0 _) [0, 1, 2, 3, 4, 5, 6, 7, 8, 9] (by kernel_rfl) (by kernel_rfl) (Below.refl _ _).drew ?_
  repeat (first | (refine Abs.step_pure rfl rfl (fun K hK => ?_); go_simp; (try go_bits); (first | refine hK _ _ ?_ | (simp only [↓IntWalk.iteOmega]; go_simp; (try go_bits); refine hK _ _ ?_)); clear hK K) | (refine Abs.step_load (v := ?_) rfl rfl (by kernel_rfl) rfl (fun w0 hI => ?_) (fun K hK => ?_); rotate_left; (· have z0 := (rcell (kp hI (f_s1))).1; go_simp; rfl); (simp only [Act.put, List.setIfInBounds_toArray, List.set_cons_zero, List.set_cons_succ]; refine hK _ _ ?_; clear hK K)) | (refine Abs.step_skip rfl rfl (fun K hK => ?_); (simp only [Act.put, List.setIfInBounds_toArray, List.set_cons_zero, List.set_cons_succ]; refine hK _ _ ?_; clear hK K)))
  (refine Abs.step_store (T := ?_) rfl rfl rfl (fun w0 hI hF hU => ?_) (fun w0 hI hU hJ => ?_) (fun K hK => ?_); rotate_left; (· have hR := kp hI (f_o1); have hg0 := (rcell hR).1; have hg1 := (rcell hR).2.1; simp only [Abs.T_setF, Abs.T_addA, Abs.T_push, Abs.T_start]; go_simp; exact row2 hR _ _); (· first | exact trivial | exact js hJ rfl _ | exact js hJ (Or.inl rfl) _ | exact js hJ (Or.inr rfl) _); (simp only [Act.put, List.setIfInBounds_toArray, List.set_cons_zero, List.set_cons_succ]; refine hK _ _ ?_; clear hK K))
  repeat (first | (refine Abs.step_pure rfl rfl (fun K hK => ?_); go_simp; (try go_bits); (first | refine hK _ _ ?_ | (simp only [↓IntWalk.iteOmega]; go_simp; (try go_bits); refine hK _ _ ?_)); clear hK K) | (refine Abs.step_load (v := ?_) rfl rfl (by kernel_rfl) rfl (fun w0 hI => ?_) (fun K hK => ?_); rotate_left; (· have z0 := (rcell (kp hI (f_s1))).1; go_simp; rfl); (simp only [Act.put, List.setIfInBounds_toArray, List.set_cons_zero, List.set_cons_succ]; refine hK _ _ ?_; clear hK K)) | (refine Abs.step_skip rfl rfl (fun K hK => ?_); (simp only [Act.put, List.setIfInBounds_toArray, List.set_cons_zero, List.set_cons_succ]; refine hK _ _ ?_; clear hK K)))
  intro w0 hI hF hx1 hx2
  clear hx1 hx2 hF
  simp only [Abs.T_push]
  generalize hT2 : setRow w0 _ _ = w2
  obtain ⟨hx2, f_o2⟩ := fin_x hI (f_o1) hT2
  clear hT2 hI w0
  have f_s2 := kx hx2 (f_s1) (by omega)
  have hB2 := bX hB1 hx2 (by omega)
  obtain ⟨zs_a, zs_b, ls2⟩ := rcell f_s2
  obtain ⟨zo_a, zo_b, lo2⟩ := rcell f_o2
  go_wp2
  refine bodyPost_ret (by simp [results, Tryz.results61, go_sem, zo_a]; try rfl) rfl ⟨rfl, hB2⟩

theorem sz_i64 {x : Int} (h1 : -9223372036854775808 ≤ x) (h2 : x < 9223372036854775808) : (sz x.natAbs).length ≤ 64 := sz_len_lt (by omega)

end Go.Proofs.YtmpfbkeamihjbaaGreat

namespace Go.Proofs.YtmpfbkeamihjbaaGreat
open Go.RowKit

theorem drop_div {l : List Nat} (h : Bin l) (k : Nat) : bv (l.drop k) = bv l / 2 ^ k := by
  by_cases hk : k ≤ l.length
  · have h1 := bv_split l k hk
    have h2 := bv_lt (h.take k)
    rw [List.length_take, Nat.min_eq_left hk] at h2
    rw [h1, Nat.add_comm, Nat.mul_add_div (Nat.two_pow_pos k), Nat.div_eq_of_lt h2, Nat.add_zero]
  · rw [List.drop_eq_nil_of_le (by omega)]
    have h1 := bv_lt h
    have h2 := Nat.pow_le_pow_right (n := 2) (by decide) (show l.length ≤ k by omega)
    rw [Nat.div_eq_of_lt (by omega)]; rfl
theorem dg_div {l : List Nat} (h : Bin l) (k : Nat) : dg l k = bv l / 2 ^ k % 2 := by
  rw [← drop_div h k]
  by_cases hk : k < l.length
  · rw [bv_drop l k hk, dg_in hk]
    have := dg_lt h k
    omega
  · rw [dg_out hk, List.drop_eq_nil_of_le (by omega)]; rfl
theorem word_step (x p j : Nat) (hj : j < 64) : x / 2 ^ p % 2 ^ (64 - j) = 2 * (x / 2 ^ (p + 1) % 2 ^ (64 - (j + 1))) + x / 2 ^ p % 2 := by
  rw [Nat.pow_succ 2 p, ← Nat.div_div_eq_div_mul]
  generalize x / 2 ^ p = y
  rw [show 64 - j = (64 - (j + 1)) + 1 by omega, Nat.pow_succ, Nat.mul_comm (2 ^ (64 - (j + 1))) 2, Nat.mod_mul]
  omega

set_option maxRecDepth 100000 in
set_option maxHeartbeats 1000000 in
theorem ref_word (x f : Nat) (A : Option Addr) (c : Nat) (hx : (sz x).length ≤ 1000) (hf : f ≤ 1000) (w : World) (ha : Rd w A c (sz x)) :
    Calls Tryz.prog 107 #[.slice A (sz x).length c, .int .i64 (f : Int)] w fun e w' => e = .returned (.int .u64 ((x / 2 ^ f % 18446744073709551616 : Nat) : Int)) ∧ w = w' := by
  obtain ⟨l, el⟩ : ∃ l, l = sz x := ⟨_, rfl⟩
  have bl : Bin l := by rw [el]; exact Bin.sz x
  have vl : bv l = x := by rw [el, bv_sz]
  rw [← el] at ha hx ⊢
  clear el
  obtain ⟨m, hm⟩ : ∃ m, l.length = m := ⟨_, rfl⟩
  rw [hm] at hx ⊢
  have HK := hide hm
  have VL := hide vl
  clear hm vl
  go_enter Tryz.func107, Tryz.ntmps107
  go_wp2
  go_loop [5, 6] (fun vn vi => ∃ (k : Nat) (i : Int) (n : Nat), vi = .int .i64 i ∧ i = (f : Int) + k - 1 ∧ k ≤ 64 ∧ vn = .int .u64 (n : Int) ∧ Hid (n = x / 2 ^ (f + k) % 2 ^ (64 - k))) (fun _ vi => (intOf vi - f + 1).toNat)
  case atStart => exact ⟨64, _, 0, rfl, by omega, Nat.le_refl _, rfl, by rw [Hid]; simp [Nat.mod_one]⟩
  case round =>
    obtain ⟨k, i, n, rfl, hi, hk, rfl, hn⟩ := hrel
    by_cases h0 : k = 0
    · subst h0
      have hlt : ¬ (f : Int) ≤ i := by omega
      clear hi
      go_wp2
      go_ret
      have := hn.out
      rw [Nat.add_zero] at this
      exact ⟨by rw [this]; rfl, rfl⟩
    · obtain ⟨j, rfl⟩ : ∃ j, k = j + 1 := ⟨k - 1, by omega⟩
      obtain ⟨p, hp⟩ : ∃ p, p = f + j := ⟨_, rfl⟩
      obtain rfl : i = (p : Int) := by omega
      have hle : (f : Int) ≤ (p : Int) := by omega
      have hn1 : n < 9223372036854775808 := by
        have h1 := hn.out
        have h2 := Nat.mod_lt (x / 2 ^ (f + (j + 1))) (Nat.two_pow_pos (64 - (j + 1)))
        have h3 := Nat.pow_le_pow_right (n := 2) (by decide) (show 64 - (j + 1) ≤ 63 by omega)
        have h4 : (2 : Nat) ^ 63 = 9223372036854775808 := by decide
        omega
      have hst := word_step x p j (by omega)
      rw [hp, Nat.add_assoc, ← hn.out, ← hp] at hst
      have hdg := dg_div bl p
      rw [VL.out] at hdg
      rw [← hdg] at hst
      have HST := hide hst
      have hmeas : (p : Int) - 1 - (f : Int) + 1 = (j : Int) := by omega
      have hi2 : (p : Int) - 1 = (f : Int) + j - 1 := by omega
      have HI2 := hide hi2
      have HM := hide hmeas
      have hpm : p ≤ 1064 := by omega
      have HP := hide hp
      clear hi hst hdg hi2 hmeas hp
      by_cases hpl : p < l.length
      · have hpm2 : (p : Int) < (m : Int) := by rw [HK.out] at hpl; omega
        obtain ⟨g, rfl, hc⟩ := ha.at_ (k := p) hpl
        rw [dg_in hpl] at hc
        have hd := dg_lt bl p
        clear hpl
        rcases (show dg l p = 0 ∨ dg l p = 1 by omega) with hd0 | hd0
        · rw [hd0] at hc
          have HD := hide hd0
          clear hd hd0
          go_wp2
          go_round
          case rel => exact ⟨j, _, 2 * n, rfl, HI2.out, by omega, by go_num, by have := HST.out; rw [HD.out, HP.out] at this; rw [Hid]; omega⟩
          case measure => simp [intOf]; have := HM.out; omega
        · rw [hd0] at hc
          have HD := hide hd0
          clear hd hd0
          go_wp2
          go_round
          case rel => exact ⟨j, _, 2 * n + 1, rfl, HI2.out, by omega, by go_num, by have := HST.out; rw [HD.out, HP.out] at this; rw [Hid]; omega⟩
          case measure => simp [intOf]; have := HM.out; omega
      · have HD := hide (dg_out hpl)
        have hpm2 : ¬ (p : Int) < (m : Int) := by rw [HK.out] at hpl; omega
        clear hpl
        go_wp2
        go_round
        case rel => exact ⟨j, _, 2 * n, rfl, HI2.out, by omega, by go_num, by have := HST.out; rw [HD.out, HP.out] at this; rw [Hid]; omega⟩
        case measure => simp [intOf]; have := HM.out; omega
end Go.Proofs.YtmpfbkeamihjbaaGreat
