/- Bands in memory; pmc.back and pmc.Check at this program. pmc.Check at this program. The middle of two numbers by bits: plain arithmetic. swing.at, (door).slope at this program. -/
import Derived.Test.YtpimkigbdjfjoaaDoorP4
import Derived.Test.YtpimkigbdjfjoaaDoorP3
import Derived.LoopTactic
import Derived.IntWalk
import Derived.Test.YtpimkigbdjfjoaaDoorP5
set_option linter.unusedSimpArgs false
set_option linter.unusedVariables false
namespace Go.Proofs.YtpimkigbdjfjoaaDoor
open Go.RowKit

/-- a band -/
structure Bd where
  t : Int
  lo : Int
  hi : Int
  deriving DecidableEq

def Bd.cs (b : Bd) : Array Value := #[.int .i64 b.t, .int .i64 b.lo, .int .i64 b.hi]
/-- a slice that reads as these bands -/
structure BR (w : World) (A : Option Addr) (c : Nat) (l : List Bd) : Prop where
  cap : l.length ≤ c
  top : c ≤ 9223372036854775807
  mem : 0 < l.length → ∃ g o cur, A = some ⟨g, o, none⟩ ∧ w.heap[g]? = some (.cells cur 37 (0, 0)) ∧
    ∀ i (hi : i < l.length), cur[o + i * 3]? = some (.int .i64 l[i].t) ∧ cur[o + i * 3 + 1]? = some (.int .i64 l[i].lo) ∧ cur[o + i * 3 + 2]? = some (.int .i64 l[i].hi)

theorem BR.at_ {w : World} {A : Option Addr} {c : Nat} {l : List Bd} (h : BR w A c l) {k : Nat} (hk : k < l.length) :
    ∃ g o, A = some ⟨g, o, none⟩ ∧ w.cell? ⟨g, o + k * 3, none⟩ = some (.int .i64 l[k].t) ∧ w.cell? ⟨g, o + k * 3 + 1, none⟩ = some (.int .i64 l[k].lo) ∧ w.cell? ⟨g, o + k * 3 + 2, none⟩ = some (.int .i64 l[k].hi) := by
  obtain ⟨g, o, cur, e, hg, hc⟩ := h.mem (by omega)
  obtain ⟨h1, h2, h3⟩ := hc k hk
  exact ⟨g, o, e, (cell_of_row w g _ cur _ (0, 0) hg).trans h1, (cell_of_row w g _ cur _ (0, 0) hg).trans h2, (cell_of_row w g _ cur _ (0, 0) hg).trans h3⟩
theorem BR.below {w w' : World} {A : Option Addr} {c : Nat} {l : List Bd} (h : BR w A c l) (hb : Below w.heap.size w w') : BR w' A c l :=
  ⟨h.cap, h.top, fun hl => by
    obtain ⟨g, o, cur, e, hg, hc⟩ := h.mem hl
    exact ⟨g, o, cur, e, (hb.block g (Array.getElem?_eq_some_iff.1 hg).1).trans hg, hc⟩⟩
/-- a store into a variable of another type leaves bands alone -/
theorem BR.exc {w w1 : World} {A : Option Addr} {c k : Nat} {l : List Bd} {cs : Array Value} {t : TypeId} (h : BR w A c l) (hx : Exc k w w1) (hk : w.heap[k]? = some (.cells cs t (0, 0))) (ht : t ≠ 37) : BR w1 A c l :=
  ⟨h.cap, h.top, fun hl => by
    obtain ⟨g, o, cur, e, hg, hc⟩ := h.mem hl
    have hne : g ≠ k := by
      rintro rfl
      rw [hg] at hk
      injection hk with hk
      injection hk with _ h2 _
      exact ht h2.symm
    exact ⟨g, o, cur, e, (hx.other g (Array.getElem?_eq_some_iff.1 hg).1 hne).trans hg, hc⟩⟩
theorem BR.take {w : World} {A : Option Addr} {c : Nat} {l : List Bd} (h : BR w A c l) (k : Nat) : BR w A c (l.take k) :=
  ⟨by rw [List.length_take]; have := h.cap; omega, h.top, fun hl => by
    rw [List.length_take] at hl
    obtain ⟨g, o, cur, e, hg, hc⟩ := h.mem (by omega)
    refine ⟨g, o, cur, e, hg, fun i hi => ?_⟩
    rw [List.length_take] at hi
    have := hc i (by omega)
    simpa using this⟩
theorem BR.nil (w : World) (A : Option Addr) (c : Nat) (hc : c ≤ 9223372036854775807) : BR w A c [] := ⟨by simp, hc, fun h => by simp at h⟩
/-- cut at the front: 's[k:n:m]' -/
theorem BR.drop {w : World} {A : Option Addr} {c m : Nat} {l : List Bd} (h : BR w A c l) (k : Nat) (hk : k ≤ l.length) (hm : l.length ≤ m) (hmc : m ≤ c) : BR w (if m = k then A else A.map (·.add (k * 3))) (m - k) (l.drop k) :=
  ⟨by rw [List.length_drop]; omega, by have := h.top; omega, fun hl => by
    rw [List.length_drop] at hl
    obtain ⟨g, o, cur, rfl, hg, hc⟩ := h.mem (by omega)
    rw [if_neg (by omega)]
    refine ⟨g, o + k * 3, cur, ?_, hg, fun i hi => ?_⟩
    · show some (Addr.add _ _) = _
      unfold Addr.add
      split
      · next h0 => simp [h0]
      · rfl
    · rw [List.length_drop] at hi
      have := hc (k + i) (by omega)
      rw [show o + k * 3 + i * 3 = o + (k + i) * 3 by omega]
      simpa using this⟩

/-! ### pmc -/
theorem pmc_back (v : Int) (w : World) : Calls Tryd.prog 62 #[.int .i64 v] w fun e w' => e = .returned (.bool (bkB v)) ∧ w = w' := by
  by_cases h1 : -2305844108725321728 ≤ v
  · by_cases h2 : v ≤ 2305844108725321728
    · have hb : bkB v = true := decide_eq_true ⟨h1, h2⟩
      rw [hb]
      go_enter Tryd.func62, Tryd.ntmps62
      go_wp2
      go_ret
      exact ⟨rfl, rfl⟩
    · have hb : bkB v = false := decide_eq_false (fun h => h2 h.2)
      rw [hb]
      go_enter Tryd.func62, Tryd.ntmps62
      go_wp2
      go_ret
      exact ⟨by simp, rfl⟩
  · have hb : bkB v = false := decide_eq_false (fun h => h1 h.1)
    rw [hb]
    have h2 : v < -2305844108725321728 := by omega
    go_enter Tryd.func62, Tryd.ntmps62
    go_wp2
    go_ret
    exact ⟨by simp, rfl⟩

/-- the bands behind a time may be -/
def bdB (last : Int) (b : Bd) : Bool := decide (last < b.t) && decide (b.t ≤ 281474976710656) && decide (b.lo ≤ b.hi) && bkB b.lo && bkB b.hi
def okF : Int → List Bd → Bool
  | _, [] => true
  | last, b :: l => bdB last b && okF b.t l
def okB (l : List Bd) : Bool := decide (0 < l.length) && decide (l.length ≤ 256) && okF (-1) l

def lastT (l : List Bd) : Int := match l.getLast? with | none => -1 | some b => b.t
theorem okF_append (last : Int) (l : List Bd) (b : Bd) : okF last (l ++ [b]) = (okF last l && bdB (match l.getLast? with | none => last | some b => b.t) b) := by
  induction l generalizing last with
  | nil => simp [okF]
  | cons a l ih =>
    rw [List.cons_append, okF, okF, ih, Bool.and_assoc]
    cases l with
    | nil => rfl
    | cons c l => rw [List.getLast?_cons_cons]; rfl
theorem lastT_snoc (l : List Bd) (b : Bd) : lastT (l ++ [b]) = b.t := by simp [lastT]
theorem take_snoc {α : Type} (l : List α) (k : Nat) (h : k < l.length) : l.take (k + 1) = l.take k ++ [l[k]] := by
  rw [List.take_succ_eq_append_getElem h]
theorem okF_take (l : List Bd) (k : Nat) (h : k < l.length) : okF (-1) (l.take (k + 1)) = (okF (-1) (l.take k) && bdB (lastT (l.take k)) l[k]) := by
  rw [take_snoc l k h, okF_append]; rfl
theorem okF_pre (last : Int) : ∀ (l : List Bd) (k : Nat), okF last l = true → okF last (l.take k) = true
  | [], k, _ => by simp [okF]
  | b :: l, 0, _ => rfl
  | b :: l, k + 1, h => by
    rw [List.take_succ_cons, okF]
    rw [okF, Bool.and_eq_true] at h
    rw [h.1, okF_pre b.t l k h.2]; rfl
end Go.Proofs.YtpimkigbdjfjoaaDoor

namespace Go.Proofs.YtpimkigbdjfjoaaDoor
open Go.RowKit

def chE (l : List Bd) : Int := if okB l = true then 0 else 180
theorem chE_no {l : List Bd} (h : okB l = false) : chE l = 180 := by unfold chE; rw [h]; rfl
theorem chE_yes {l : List Bd} (h : okB l = true) : chE l = 0 := by unfold chE; rw [h]; rfl
theorem okF_no {l : List Bd} (k : Nat) (hk : k < l.length) (h : okF (-1) (l.take (k + 1)) = false) : okF (-1) l = false := by
  cases e : okF (-1) l with
  | false => rfl
  | true => rw [okF_pre (-1) l (k + 1) e] at h; cases h

set_option maxRecDepth 100000 in
set_option maxHeartbeats 2000000 in
theorem pmc_Check_in (A : Option Addr) (c : Nat) (l : List Bd) (E : Int) (hE : Hid ((okF (-1) l = true → E = 0) ∧ (okF (-1) l = false → E = 180))) (h0 : 0 < l.length) (h1 : l.length ≤ 256) (w : World) (hR : BR w A c l) :
    Calls Tryd.prog 27 #[.slice A l.length c] w fun e w' => e = .returned (.int .i64 E) ∧ Below w.heap.size w w' := by
  obtain ⟨g, o, cur, rfl, hg, -⟩ := hR.mem h0
  have n0 : ((l.length : Int) == 0) = false := by rw [beq_eq_false_iff_ne]; omega
  have n1 : decide (256 < (l.length : Int)) = false := by rw [decide_eq_false_iff_not]; omega
  have c1 := pmc_back
  go_enter Tryd.func27, Tryd.ntmps27
  go_wp2_with fail
  go_loopw [3, 16] (fun va vi wr => ∃ k : Nat, vi = .int .i64 k ∧ k ≤ l.length ∧ va = .int .i64 (lastT (l.take k)) ∧ Hid (okF (-1) (l.take k) = true) ∧ Below w.heap.size w wr) (fun _ vi _ => l.length - (intOf vi).toNat)
  case atStart => exact ⟨0, rfl, by omega, rfl, hide rfl, b0 w⟩
  case round =>
    obtain ⟨k, rfl, hk, rfl, hok, hb⟩ := hrel
    by_cases hlt : k < l.length
    · obtain ⟨g', o', e', z1, z2, z3⟩ := (hR.below hb).at_ hlt
      obtain ⟨rfl, rfl⟩ : g = g' ∧ o = o' := by injection e' with e'; injection e' with e1 e2; exact ⟨e1, e2⟩
      clear e'
      have ht := okF_take l k hlt
      rw [hok.out, Bool.true_and] at ht
      have hno : Hid (bdB (lastT (l.take k)) l[k] = false → E = 180) := hide (fun h => hE.out.2 (okF_no k hlt (by rw [ht, h])))
      have hyes : Hid (bdB (lastT (l.take k)) l[k] = true → okF (-1) (l.take (k + 1)) = true ∧ lastT (l.take (k + 1)) = l[k].t) := hide (fun h => ⟨by rw [ht, h], by rw [take_snoc l k hlt, lastT_snoc]⟩)
      clear ht
      have hbd : Hid (bdB = fun last b => decide (last < b.t) && decide (b.t ≤ 281474976710656) && decide (b.lo ≤ b.hi) && bkB b.lo && bkB b.hi) := hide rfl
      generalize l[k] = b at *
      obtain ⟨bt, bl, bh⟩ := b
      simp only at z1 z2 z3 c1
      generalize lastT (l.take k) = last at *
      have hbv : ∀ x, bdB last ⟨bt, bl, bh⟩ = x → (!decide (bt ≤ last) && !decide (281474976710656 < bt) && !decide (bh < bl) && bkB bl && bkB bh) = x := fun x hx => by
        rw [← hx, hbd.out]
        have e1 : (!decide (bt ≤ last)) = decide (last < bt) := by rw [Bool.eq_iff_iff]; simp
        have e2 : (!decide (281474976710656 < bt)) = decide (bt ≤ 281474976710656) := by rw [Bool.eq_iff_iff]; simp
        have e3 : (!decide (bh < bl)) = decide (bl ≤ bh) := by rw [Bool.eq_iff_iff]; simp
        rw [e1, e2, e3]
      clear hbd
      cases hB : bdB last ⟨bt, bl, bh⟩
      · have e180 := hno.out hB
        replace hbv := hbv _ hB
        clear hno hyes hB hE
        subst e180
        cases q1 : decide (bt ≤ last)
        · cases q2 : decide (281474976710656 < bt)
          · cases q3 : decide (bh < bl)
            · cases q4 : bkB bl
              · clear hbv
                go_wp2_with (refine (c1 _ _).mono ?_; rintro e wq ⟨rfl, rfl⟩)
                go_ret
                exact ⟨rfl, bA hb _⟩
              · cases q5 : bkB bh
                · clear hbv
                  go_wp2_with (refine (c1 _ _).mono ?_; rintro e wq ⟨rfl, rfl⟩)
                  go_ret
                  exact ⟨rfl, bA hb _⟩
                · rw [q1, q2, q3, q4, q5] at hbv
                  cases hbv
            · clear hbv
              go_wp2_with (refine (c1 _ _).mono ?_; rintro e wq ⟨rfl, rfl⟩)
              go_ret
              exact ⟨rfl, bA hb _⟩
          · clear hbv
            go_wp2_with (refine (c1 _ _).mono ?_; rintro e wq ⟨rfl, rfl⟩)
            go_ret
            exact ⟨rfl, bA hb _⟩
        · clear hbv
          go_wp2_with (refine (c1 _ _).mono ?_; rintro e wq ⟨rfl, rfl⟩)
          go_ret
          exact ⟨rfl, bA hb _⟩
      · obtain ⟨y1, y2⟩ := hyes.out hB
        replace hbv := hbv _ hB
        simp only [Bool.and_eq_true, Bool.not_eq_true'] at hbv
        obtain ⟨⟨⟨⟨q1, q2⟩, q3⟩, q4⟩, q5⟩ := hbv
        have Y1 := hide y1
        have Y2 := hide y2
        clear hno hyes hB hE y1 y2
        go_wp2_with (refine (c1 _ _).mono ?_; rintro e wq ⟨rfl, rfl⟩)
        go_roundw
        case rel => exact ⟨k + 1, by go_num, by omega, by rw [Y2.out], Y1, bA hb _⟩
        case measure => simp [intOf]; omega
    · obtain rfl : k = l.length := by omega
      rw [List.take_length] at hok
      have e := hE.out.1 hok.out
      subst e
      clear hE
      go_wp2
      go_ret
      exact ⟨rfl, hb⟩
end Go.Proofs.YtpimkigbdjfjoaaDoor

namespace Go.Proofs.YtpimkigbdjfjoaaDoor
open Go.RowKit

theorem nat_mid (n : Nat) : ∀ m : Nat, n + m = 2 * (n &&& m) + (n ^^^ m) := by
  induction n using Nat.strongRecOn with
  | _ n ih =>
    intro m
    by_cases h0 : n = 0
    · subst h0; simp
    · have h1 := ih (n / 2) (by omega) (m / 2)
      have e1 : (n &&& m) / 2 = n / 2 &&& m / 2 := Nat.and_div_two
      have e2 : (n ^^^ m) / 2 = n / 2 ^^^ m / 2 := Nat.xor_div_two
      have e3 : (n &&& m) % 2 = n % 2 &&& m % 2 := Nat.and_mod_two_pow (n := 1)
      have e4 : (n ^^^ m) % 2 = n % 2 ^^^ m % 2 := Nat.xor_mod_two_pow (n := 1)
      rw [← e1, ← e2] at h1
      have h2 : n % 2 + m % 2 = 2 * (n % 2 &&& m % 2) + (n % 2 ^^^ m % 2) := by
        rcases Nat.mod_two_eq_zero_or_one n with a | a <;> rcases Nat.mod_two_eq_zero_or_one m with b | b <;> rw [a, b] <;> rfl
      rw [← e3, ← e4] at h2
      omega

theorem wrap_toInt (x : BitVec 64) : IntKind.i64.wrap ((x.toNat : Nat) : Int) = x.toInt := by
  have h := x.isLt
  rw [BitVec.toInt_eq_toNat_cond]
  unfold IntKind.wrap
  have e : ((x.toNat : Int) % (2 ^ 64 : Int)) = (x.toNat : Int) := Int.emod_eq_of_lt (by omega) (by omega)
  simp only [IntKind.bits, IntKind.signed, e, Bool.true_and]
  split <;> split <;> simp_all <;> omega

theorem bv_mid (x y : BitVec 64) : x.toInt + y.toInt = 2 * (x &&& y).toInt + (x ^^^ y).toInt := by
  have h := nat_mid x.toNat y.toNat
  rw [BitVec.toInt_eq_msb_cond, BitVec.toInt_eq_msb_cond, BitVec.toInt_eq_msb_cond, BitVec.toInt_eq_msb_cond, BitVec.msb_and, BitVec.msb_xor, BitVec.toNat_and, BitVec.toNat_xor]
  cases x.msb <;> cases y.msb <;> simp <;> omega

theorem bits_mid (a b : Int) (a1 : -2305844108725321728 ≤ a) (a2 : a ≤ 2305844108725321728) (b1 : -2305844108725321728 ≤ b) (b2 : b ≤ 2305844108725321728) :
    wrap64 (bits BinOp.and IntKind.i64 a b + bits BinOp.xor IntKind.i64 a b / 2) = (a + b) / 2 := by
  have k := bv_mid (BitVec.ofInt 64 a) (BitVec.ofInt 64 b)
  rw [BitVec.toInt_ofInt_eq_self (by decide) (by simp; omega) (by simp; omega), BitVec.toInt_ofInt_eq_self (by decide) (by simp; omega) (by simp; omega)] at k
  have e1 : bits BinOp.and IntKind.i64 a b = (BitVec.ofInt 64 a &&& BitVec.ofInt 64 b).toInt := wrap_toInt _
  have e2 : bits BinOp.xor IntKind.i64 a b = (BitVec.ofInt 64 a ^^^ BitVec.ofInt 64 b).toInt := wrap_toInt _
  rw [e1, e2]
  have e3 : (BitVec.ofInt 64 a &&& BitVec.ofInt 64 b).toInt + (BitVec.ofInt 64 a ^^^ BitVec.ofInt 64 b).toInt / 2 = (a + b) / 2 := by omega
  rw [e3]
  exact IntWalk.wrap64_in _ ⟨by omega, by omega⟩
end Go.Proofs.YtpimkigbdjfjoaaDoor

namespace Go.Proofs.YtpimkigbdjfjoaaDoor
open Go.RowKit

theorem pmc_Check (A : Option Addr) (c : Nat) (l : List Bd) (w : World) (hR : BR w A c l) :
    Calls Tryd.prog 27 #[.slice A l.length c] w fun e w' => e = .returned (.int .i64 (chE l)) ∧ Below w.heap.size w w' := by
  by_cases h0 : 0 < l.length
  · by_cases h1 : l.length ≤ 256
    · refine pmc_Check_in A c l (chE l) (hide ⟨fun h => chE_yes ?_, fun h => chE_no ?_⟩) h0 h1 w hR
      · unfold okB; rw [h]; simp [h1]; exact h0
      · unfold okB; rw [h]; simp
    · have e : chE l = 180 := chE_no (by unfold okB; simp [h1])
      rw [e]
      have n0 : ((l.length : Int) == 0) = false := by rw [beq_eq_false_iff_ne]; omega
      have n1 : decide (256 < (l.length : Int)) = true := by rw [decide_eq_true_iff]; omega
      go_enter Tryd.func27, Tryd.ntmps27
      go_wp2
      go_ret
      exact ⟨rfl, b0 w⟩
  · have e : chE l = 180 := chE_no (by unfold okB; simp; intro h; exact absurd h h0)
    rw [e]
    have n0 : ((l.length : Int) == 0) = true := by rw [beq_iff_eq]; omega
    go_enter Tryd.func27, Tryd.ntmps27
    go_wp2
    go_ret
    exact ⟨rfl, b0 w⟩

theorem bkB_spec {v : Int} (h : bkB v = true) : -2305844108725321728 ≤ v ∧ v ≤ 2305844108725321728 := of_decide_eq_true h

/-- the middle -/
def hgB (b : Bd) : Int := (b.lo + b.hi) / 2

set_option maxRecDepth 100000 in
theorem swing_at (b : Bd) (h1 : bkB b.lo = true) (h2 : bkB b.hi = true) (w : World) :
    Calls Tryd.prog 135 #[.agg #[.int .i64 b.t, .int .i64 b.lo, .int .i64 b.hi]] w fun e w' => e = .returned (.agg #[.int .i64 b.t, .int .i64 (hgB b)]) ∧ Below w.heap.size w w' := by
  go_enter Tryd.func135, Tryd.ntmps135
  go_wp2_with fail
  have f_b1 := (ka (na w #[.int .i64 b.t, .int .i64 b.lo, .int .i64 b.hi] 37) (.cells #[.int .i64 0, .int .i64 0] 118))
  have f_o1 := (na1 w (.cells #[.int .i64 b.t, .int .i64 b.lo, .int .i64 b.hi] 37) #[.int .i64 0, .int .i64 0] 118)
  have hB1 := (bA (bA (b0 w) (.cells #[.int .i64 b.t, .int .i64 b.lo, .int .i64 b.hi] 37)) (.cells #[.int .i64 0, .int .i64 0] 118))
  have lb1 := (rcell f_b1).2.2
  have lo1 := (rcell f_o1).2.2
  refine Abs.wp_region_abs (Abs.cls0 _) [0, 1, 2, 3, 4, 5] (by kernel_rfl) (by kernel_rfl) (Below.refl _ _).drew ?_
  repeat (first | (refine Abs.step_pure rfl rfl (fun K hK => ?_); go_simp; (try go_bits); (first | refine hK _ _ ?_ | (simp only [↓IntWalk.iteOmega]; go_simp; (try go_bits); refine hK _ _ ?_)); clear hK K) | (refine Abs.step_load (v := ?_) rfl rfl (by kernel_rfl) rfl (fun w0 hI => ?_) (fun K hK => ?_); rotate_left; (· have z0 := (rcell (kp hI (f_b1))).1; have z1 := (rcell (kp hI (f_o1))).1; go_simp; rfl); (simp only [Act.put, List.setIfInBounds_toArray, List.set_cons_zero, List.set_cons_succ]; refine hK _ _ ?_; clear hK K)) | (refine Abs.step_skip rfl rfl (fun K hK => ?_); (simp only [Act.put, List.setIfInBounds_toArray, List.set_cons_zero, List.set_cons_succ]; refine hK _ _ ?_; clear hK K)))
  intro w2 hb2 hx0 hx1 hx2
  clear hx0 hx1 hx2
  simp only [Abs.T_setF, Abs.T_addA, Abs.T_push, Abs.T_start]
  have f_b2 := kp hb2 (f_b1)
  have f_o2 := kp hb2 (f_o1)
  have hB2 := bB hB1 hb2
  obtain ⟨zb_a, zb_b, lb2⟩ := rcell f_b2
  obtain ⟨zo_a, zo_b, lo2⟩ := rcell f_o2
  go_wp2_with fail
  rw [bits_mid _ _ (bkB_spec h1).1 (bkB_spec h1).2 (bkB_spec h2).1 (bkB_spec h2).2]
  (rw [row2 (f_o2)]; generalize hT : setRow _ _ _ = wE; obtain ⟨hbE, hgE⟩ := ret_row hB2 (by omega) (f_o2) hT; have zE := (rcell hgE).1; clear hT; refine bodyPost_ret (by simp [results, Tryd.results135, go_sem, zE]; try rfl) rfl ?_)
  exact ⟨rfl, hbE⟩

/-- a door -/
structure Dr where
  t : Int
  v : Int
  n0 : Int
  d0 : Int
  n1 : Int
  d1 : Int
  many : Int
  deriving DecidableEq
def Dr.cs (d : Dr) : Array Value := #[.int .i64 d.t, .int .i64 d.v, .int .i64 d.n0, .int .i64 d.d0, .int .i64 d.n1, .int .i64 d.d1, .int .i64 d.many]

set_option maxRecDepth 100000 in
set_option maxHeartbeats 1000000 in
theorem door_slope (g : Nat) (dt dv n0 d0 n1 d1 m bt bl bh v : Int) (h : slB (v - dv) (bt - dt) = true) (x1 : -9223372036854775808 ≤ v - dv) (x2 : v - dv ≤ 9223372036854775807) (x3 : -9223372036854775808 ≤ bt - dt) (x4 : bt - dt ≤ 9223372036854775807) (w : World)
    (hg : w.heap[g]? = some (.cells #[.int .i64 dt, .int .i64 dv, .int .i64 n0, .int .i64 d0, .int .i64 n1, .int .i64 d1, .int .i64 m] 120 (0, 0))) :
    Calls Tryd.prog 136 #[.pointer (some ⟨g, 0, none⟩), .agg #[.int .i64 bt, .int .i64 bl, .int .i64 bh], .int .i64 v] w fun e w' => e = .returned (.agg #[.int .i64 (lwN (v - dv) (bt - dt)), .int .i64 (lwD (v - dv) (bt - dt))]) ∧ Below w.heap.size w w' := by
  have c1 := line_Lowest_yes (v - dv) (bt - dt) h
  generalize lwN (v - dv) (bt - dt) = N at *
  generalize lwD (v - dv) (bt - dt) = D at *
  go_enter Tryd.func136, Tryd.ntmps136
  obtain ⟨zg_a, zg_b, lg0⟩ := rcell hg
  go_wp2_with fail
  have f_g1 := (ka (ka (hg) (.cells #[.int .i64 bt, .int .i64 bl, .int .i64 bh] 37)) (.cells #[.int .i64 0, .int .i64 0] 26))
  have f_b1 := (ka (na w #[.int .i64 bt, .int .i64 bl, .int .i64 bh] 37) (.cells #[.int .i64 0, .int .i64 0] 26))
  have f_o1 := (na1 w (.cells #[.int .i64 bt, .int .i64 bl, .int .i64 bh] 37) #[.int .i64 0, .int .i64 0] 26)
  have hB1 := (bA (bA (b0 w) (.cells #[.int .i64 bt, .int .i64 bl, .int .i64 bh] 37)) (.cells #[.int .i64 0, .int .i64 0] 26))
  clear zg_a zg_b
  have lg1 := (rcell f_g1).2.2
  have lb1 := (rcell f_b1).2.2
  have lo1 := (rcell f_o1).2.2
  refine Abs.wp_region_abs (Abs.cls0 _) [0, 1, 2, 3, 4, 5, 6, 7, 8, 9, 10, 11, 12, 13, 14, 15, 16, 17, 18, 19, 20, 21, 22] (by kernel_rfl) (by kernel_rfl) (Below.refl _ _).drew ?_
  repeat (first | (refine Abs.step_pure rfl rfl (fun K hK => ?_); go_simp; (try go_bits); (first | refine hK _ _ ?_ | (simp only [↓IntWalk.iteOmega]; go_simp; (try go_bits); refine hK _ _ ?_)); clear hK K) | (refine Abs.step_load (v := ?_) rfl rfl (by kernel_rfl) rfl (fun w0 hI => ?_) (fun K hK => ?_); rotate_left; (· have z0 := (rcell (kp hI (f_g1))).1; have z1 := (rcell (kp hI (f_b1))).1; have z2 := (rcell (kp hI (f_o1))).1; go_simp; rfl); (simp only [Act.put, List.setIfInBounds_toArray, List.set_cons_zero, List.set_cons_succ]; refine hK _ _ ?_; clear hK K)) | (refine Abs.step_skip rfl rfl (fun K hK => ?_); (simp only [Act.put, List.setIfInBounds_toArray, List.set_cons_zero, List.set_cons_succ]; refine hK _ _ ?_; clear hK K)))
  (refine Abs.step_call_val (f := ?_) (args := ?_) (v := ?_) rfl rfl rfl rfl (fun w0 => ?_) (fun w0 hI => ?_) (fun K hK => ?_); rotate_left 3; (· go_simp; (constructor <;> rfl)); (· exact c1 _); (simp only [Act.put, List.setIfInBounds_toArray, List.set_cons_zero, List.set_cons_succ]; refine hK _ _ ?_; clear hK K))
  repeat (first | (refine Abs.step_pure rfl rfl (fun K hK => ?_); go_simp; (try go_bits); (first | refine hK _ _ ?_ | (simp only [↓IntWalk.iteOmega]; go_simp; (try go_bits); refine hK _ _ ?_)); clear hK K) | (refine Abs.step_load (v := ?_) rfl rfl (by kernel_rfl) rfl (fun w0 hI => ?_) (fun K hK => ?_); rotate_left; (· have z0 := (rcell (kp hI (f_g1))).1; have z1 := (rcell (kp hI (f_b1))).1; have z2 := (rcell (kp hI (f_o1))).1; go_simp; rfl); (simp only [Act.put, List.setIfInBounds_toArray, List.set_cons_zero, List.set_cons_succ]; refine hK _ _ ?_; clear hK K)) | (refine Abs.step_skip rfl rfl (fun K hK => ?_); (simp only [Act.put, List.setIfInBounds_toArray, List.set_cons_zero, List.set_cons_succ]; refine hK _ _ ?_; clear hK K)))
  (refine Abs.step_var (obj := ?_) rfl rfl rfl rfl (fun w0 => ?_) (fun K hK g_s hv_s hu_s => ?_); rotate_left; (· go_simp; rfl); (simp only [Act.put, List.setIfInBounds_toArray, List.set_cons_zero, List.set_cons_succ]; refine hK _ _ ?_; clear hK K))
  repeat (first | (refine Abs.step_pure rfl rfl (fun K hK => ?_); go_simp; (try go_bits); (first | refine hK _ _ ?_ | (simp only [↓IntWalk.iteOmega]; go_simp; (try go_bits); refine hK _ _ ?_)); clear hK K) | (refine Abs.step_load (v := ?_) rfl rfl (by kernel_rfl) rfl (fun w0 hI => ?_) (fun K hK => ?_); rotate_left; (· have z0 := (rcell (kp hI (f_g1))).1; have z1 := (rcell (kp hI (f_b1))).1; have z2 := (rcell (kp hI (f_o1))).1; go_simp; rfl); (simp only [Act.put, List.setIfInBounds_toArray, List.set_cons_zero, List.set_cons_succ]; refine hK _ _ ?_; clear hK K)) | (refine Abs.step_skip rfl rfl (fun K hK => ?_); (simp only [Act.put, List.setIfInBounds_toArray, List.set_cons_zero, List.set_cons_succ]; refine hK _ _ ?_; clear hK K)))
  (refine Abs.step_store (T := ?_) rfl rfl rfl (fun w0 hI hF hU => ?_) (fun _ _ _ _ => trivial) (fun K hK => ?_); rotate_left; (· simp only [Abs.F_setF, Abs.F_addA, Abs.F_push, Abs.F_start, true_and] at hF; have hg0 := (rcell hF).1; have hg1 := (rcell hF).2.1; simp only [Abs.T_setF, Abs.T_addA, Abs.T_push, Abs.T_start]; go_simp; exact row2 hF _ _); (simp only [Act.put, List.setIfInBounds_toArray, List.set_cons_zero, List.set_cons_succ]; refine hK _ _ ?_; clear hK K))
  repeat (first | (refine Abs.step_pure rfl rfl (fun K hK => ?_); go_simp; (try go_bits); (first | refine hK _ _ ?_ | (simp only [↓IntWalk.iteOmega]; go_simp; (try go_bits); refine hK _ _ ?_)); clear hK K) | (refine Abs.step_load (v := ?_) rfl rfl (by kernel_rfl) rfl (fun w0 hI => ?_) (fun K hK => ?_); rotate_left; (· have z0 := (rcell (kp hI (f_g1))).1; have z1 := (rcell (kp hI (f_b1))).1; have z2 := (rcell (kp hI (f_o1))).1; go_simp; rfl); (simp only [Act.put, List.setIfInBounds_toArray, List.set_cons_zero, List.set_cons_succ]; refine hK _ _ ?_; clear hK K)) | (refine Abs.step_skip rfl rfl (fun K hK => ?_); (simp only [Act.put, List.setIfInBounds_toArray, List.set_cons_zero, List.set_cons_succ]; refine hK _ _ ?_; clear hK K)))
  have hs_s := leB hv_s
  try simp only [World.size_alloc] at hs_s
  intro w0 hI hF hx1 hx2
  clear hx1 hx2
  simp only [Abs.F_setF, Abs.F_addA, Abs.F_push, Abs.F_start, true_and, Abs.T_push] at hF ⊢
  generalize hT2 : setRow w0 _ _ = w2
  obtain ⟨hb2, f_s2⟩ := fin1 hI hv_s hF hT2
  clear hT2 hI hF w0
  have f_g2 := kp hb2 (f_g1)
  have f_b2 := kp hb2 (f_b1)
  have f_o2 := kp hb2 (f_o1)
  have hB2 := bB hB1 hb2
  obtain ⟨zg_a, zg_b, lg2⟩ := rcell f_g2
  obtain ⟨zb_a, zb_b, lb2⟩ := rcell f_b2
  obtain ⟨zo_a, zo_b, lo2⟩ := rcell f_o2
  obtain ⟨zs_a, zs_b, ls2⟩ := rcell f_s2
  go_wp2_with fail
  (rw [row2 (f_o2)]; generalize hT : setRow _ _ _ = wE; obtain ⟨hbE, hgE⟩ := ret_row hB2 (by omega) (f_o2) hT; have zE := (rcell hgE).1; clear hT; refine bodyPost_ret (by simp [results, Tryd.results136, go_sem, zE]; try rfl) rfl ?_)
  exact ⟨rfl, hbE⟩
end Go.Proofs.YtpimkigbdjfjoaaDoor
