/- The reader of yearbookref12, which goes on behind an error: plain law, no program in sight. The reader of yearbookref12 at this program: plain, signed, wrong. The reader of yearbookref12 at this program: line. The reader of yearbookref12 at this program: raw. The reader of yearbookref12 at this program: runs. yearbookref12.Get at this program. yearbookref12.Decode at this program. What SegcodeGets's walk needs besides: calls' outcomes in one form; rows of cells that are changed one by one. -/
import Derived.Test.YtmpfbkeamihjbaaGreatR7
import Derived.Test.YtmpfbkeamihjbaaGreatR3
import Derived.Test.YtmpfbkeamihjbaaGreatRefB
import Derived.Test.YtmpfbkeamihjbaaGreatQ5
import Derived.Test.YtmpfbkeamihjbaaGreatR6
import Derived.Test.YtmpfbkeamihjbaaGreatQ6
set_option linter.unusedSimpArgs false
set_option linter.unusedVariables false
namespace Go.Proofs.YtmpfbkeamihjbaaGreat
open Go.RowKit

def qU (b : List Int) (most at' : Nat) (e : Int) : Nat × Nat × Int :=
  if e = 0 then (match pU b most at' with | .ok (n, nx) => (n, nx, 0) | .error z => (0, at', z)) else (0, at', e)
def qS (b : List Int) (at' : Nat) (e : Int) : Int × Nat × Int :=
  if e = 0 then (match pS b at' with | .ok (n, nx) => (n, nx, 0) | .error z => (0, at', z)) else (0, at', e)
def qW (is : Bool) (e : Int) : Int := if e = 0 ∧ is = true then 7 else e
def qR1 (b : List Int) (from' : Int) (at' : Nat) (e : Int) : Rn × Nat × Int :=
  let f := qU b 281474976710656 at' e
  let c := qU b 256 f.2.1 f.2.2
  let e3 := qW (decide (c.1 = 0)) c.2.2
  let s := if 1 < c.1 then qU b 281474976710656 c.2.1 e3 else (0, c.2.1, e3)
  (⟨from' + (f.1 : Int), (s.1 : Int), (c.1 : Int)⟩, s.2.1, qW (decide (281474976710656 < rlast ⟨from' + (f.1 : Int), (s.1 : Int), (c.1 : Int)⟩)) s.2.2)
def qRs (b : List Int) : Nat → Int → Nat → Int → List Rn × Nat × Int
  | 0, _, at', e => ([], at', e)
  | m + 1, from', at', e =>
    if e = 0 then
      let x := qR1 b from' at' e
      let l := qRs b m (rlast x.1) x.2.1 x.2.2
      (x.1 :: l.1, l.2.1, l.2.2)
    else ([], at', e)
def qRuns (b : List Int) (at' : Nat) (e : Int) : List Rn × Nat × Int :=
  let m := qU b 256 at' e
  let l := qRs b m.1 0 m.2.1 (qW (decide (m.1 = 0)) m.2.2)
  (l.1, l.2.1, qW (!rnB l.1) l.2.2)
def qL (b : List Int) (kd : Int) (at' : Nat) (e : Int) : L4 × Nat × Int :=
  let R := if kd = 3 then qU b 281474976710656 at' e else (0, at', e)
  let N := if 1 < kd then qS b R.2.1 R.2.2 else (0, R.2.1, R.2.2)
  let D := if 1 < kd then qU b 281474976710656 N.2.1 N.2.2 else (1, N.2.1, N.2.2)
  let A := qS b D.2.1 D.2.2
  (⟨A.1, (R.1 : Int), N.1, (D.1 : Int)⟩, A.2.1, A.2.2)
def farV (v n : Int) : Bool := decide (2305844108725321728 - v < n) || decide (n < -2305844108725321728 - v)
def qVs (b : List Int) : Nat → Int → Nat → Int → List Int × Nat × Int
  | 0, _, at', e => ([], at', e)
  | m + 1, v, at', e =>
    if e = 0 then
      let n := qS b at' e
      let l := qVs b m (IntKind.i64.wrap (v + n.1)) n.2.1 (qW (farV v n.1) n.2.2)
      (IntKind.i64.wrap (v + n.1) :: l.1, l.2.1, l.2.2)
    else ([], at', e)

/-- what a reader that goes on has got, beside one that stops -/
def Tie {α : Type} (r : Except Int (α × Nat)) (q : α × Nat × Int) : Prop :=
  match r with
  | .ok (y, ny) => q = (y, ny, 0)
  | .error z => q.2.2 = z ∧ z ≠ 0
theorem qW_bad {is : Bool} {e : Int} (h : e ≠ 0) : qW is e = e := by unfold qW; rw [if_neg (fun q => h q.1)]
theorem qW_no (e : Int) : qW false e = e := by unfold qW; simp
theorem qW_yes : qW true 0 = 7 := rfl
theorem qU_bad {b : List Int} {most at' : Nat} {e : Int} (h : e ≠ 0) : qU b most at' e = (0, at', e) := by unfold qU; rw [if_neg h]
theorem qS_bad {b : List Int} {at' : Nat} {e : Int} (h : e ≠ 0) : qS b at' e = (0, at', e) := by unfold qS; rw [if_neg h]
theorem qU_ok {b : List Int} {most at' N nx : Nat} (h : pU b most at' = .ok (N, nx)) : qU b most at' 0 = (N, nx, 0) := by unfold qU; rw [if_pos rfl, h]
theorem qU_er {b : List Int} {most at' : Nat} {z : Int} (h : pU b most at' = .error z) : qU b most at' 0 = (0, at', z) := by unfold qU; rw [if_pos rfl, h]
theorem qS_ok {b : List Int} {at' nx : Nat} {n : Int} (h : pS b at' = .ok (n, nx)) : qS b at' 0 = (n, nx, 0) := by unfold qS; rw [if_pos rfl, h]
theorem qS_er {b : List Int} {at' : Nat} {z : Int} (h : pS b at' = .error z) : qS b at' 0 = (0, at', z) := by unfold qS; rw [if_pos rfl, h]
theorem qU_le (b : List Int) (most at' : Nat) (e : Int) : (qU b most at' e).1 ≤ most := by
  unfold qU
  split
  · cases h : pU b most at' with
    | error z => simp
    | ok p => obtain ⟨N, nx⟩ := p; exact pU_le h
  · simp
theorem qS_bd {b : List Int} (hb : Byt b) (at' : Nat) (e : Int) : -9223372036854775808 ≤ (qS b at' e).1 ∧ (qS b at' e).1 ≤ 9223372036854775807 := by
  unfold qS
  split
  · cases h' : pS b at' with
    | error z => simp
    | ok p => obtain ⟨N, nx⟩ := p; exact pS_bd hb h'
  · simp

theorem tie_R1 (b : List Int) (from' : Int) (at' : Nat) : Tie (pR1 b from' at') (qR1 b from' at' 0) := by
  unfold pR1 qR1
  cases h1 : pU b 281474976710656 at' with
  | error z =>
    have hz : z ≠ 0 := by have := pU_err h1; omega
    rw [qU_er h1]
    simp only
    rw [qU_bad hz]
    simp [qW_bad hz, Tie, hz]
  | ok p =>
    obtain ⟨f, n1⟩ := p
    rw [qU_ok h1]
    simp only
    cases h2 : pU b 256 n1 with
    | error z =>
      have hz : z ≠ 0 := by have := pU_err h2; omega
      rw [qU_er h2]
      simp [qW_bad hz, Tie, hz]
    | ok p =>
      obtain ⟨c, n2⟩ := p
      rw [qU_ok h2]
      simp only
      by_cases c0 : c = 0
      · subst c0
        simp [qW, Tie]
      · rw [if_neg c0, decide_eq_false c0, qW_no]
        by_cases c1 : c = 1
        · subst c1
          rw [if_pos rfl]
          rw [show from' + (f : Int) = rlast ⟨from' + (f : Int), ((0 : Nat) : Int), ((1 : Nat) : Int)⟩ by simp [rlast]]
          simp only [show ¬ ((1 : Nat) < 1) by decide, if_false]
          generalize hz : rlast ⟨from' + (f : Int), ((0 : Nat) : Int), ((1 : Nat) : Int)⟩ = z
          have hz2 : z = from' + (f : Int) := by rw [← hz]; simp [rlast]
          have hz3 : rlast ⟨z, ((0 : Nat) : Int), ((1 : Nat) : Int)⟩ = z := by simp [rlast]
          rw [hz3]
          by_cases hf : z ≤ 281474976710656
          · rw [if_pos hf, decide_eq_false (by omega), qW_no]
            rfl
          · rw [if_neg hf, decide_eq_true (by omega), qW_yes]
            exact ⟨rfl, by decide⟩
        · rw [if_neg c1]
          simp only [show 1 < c by omega, if_true]
          cases h3 : pU b 281474976710656 n2 with
          | error z =>
            have hz : z ≠ 0 := by have := pU_err h3; omega
            rw [qU_er h3]
            simp [qW_bad hz, Tie, hz]
          | ok p =>
            obtain ⟨s, n3⟩ := p
            rw [qU_ok h3]
            simp only
            rw [show from' + (f : Int) + ((c : Int) - 1) * (s : Int) = rlast ⟨from' + (f : Int), (s : Int), (c : Int)⟩ from rfl]
            generalize rlast ⟨from' + (f : Int), (s : Int), (c : Int)⟩ = z
            by_cases hf : z ≤ 281474976710656
            · rw [if_pos hf, decide_eq_false (by omega), qW_no]
              rfl
            · rw [if_neg hf, decide_eq_true (by omega), qW_yes]
              exact ⟨rfl, by decide⟩
theorem qRs_bad {b : List Int} : ∀ {m : Nat} {from' : Int} {at' : Nat} {e : Int}, e ≠ 0 → qRs b m from' at' e = ([], at', e)
  | 0, _, _, _, _ => rfl
  | m + 1, _, _, _, h => by rw [qRs, if_neg h]
theorem tie_Rs (b : List Int) : ∀ (m : Nat) (from' : Int) (at' : Nat), Tie (pRs b m from' at') (qRs b m from' at' 0)
  | 0, _, _ => rfl
  | m + 1, from', at' => by
    rw [pRs, qRs, if_pos rfl]
    have h1 := tie_R1 b from' at'
    cases e1 : pR1 b from' at' with
    | error z =>
      rw [e1] at h1
      obtain ⟨h1, hz⟩ := h1
      simp only
      rw [qRs_bad (by rw [h1]; exact hz)]
      exact ⟨h1, hz⟩
    | ok p =>
      obtain ⟨r, nx⟩ := p
      rw [e1] at h1
      have h1 : qR1 b from' at' 0 = (r, nx, 0) := h1
      rw [h1]
      simp only
      have h2 := tie_Rs b m (rlast r) nx
      cases e2 : pRs b m (rlast r) nx with
      | error z =>
        rw [e2] at h2
        exact h2
      | ok p =>
        obtain ⟨l, ny⟩ := p
        rw [e2] at h2
        have h2 : qRs b m (rlast r) nx 0 = (l, ny, 0) := h2
        rw [h2]
        rfl
theorem tie_Runs (b : List Int) (at' : Nat) : Tie (pRuns b at') (qRuns b at' 0) := by
  unfold pRuns qRuns
  cases h1 : pU b 256 at' with
  | error z =>
    have hz : z ≠ 0 := by have := pU_err h1; omega
    rw [qU_er h1]
    simp only
    rw [qW_bad hz, qRs_bad hz, qW_bad hz]
    exact ⟨rfl, hz⟩
  | ok p =>
    obtain ⟨m, n1⟩ := p
    rw [qU_ok h1]
    simp only
    by_cases m0 : m = 0
    · rw [if_pos m0, decide_eq_true m0, qW_yes, qRs_bad (show (7 : Int) ≠ 0 by decide), qW_bad (show (7 : Int) ≠ 0 by decide)]
      exact ⟨rfl, by decide⟩
    · rw [if_neg m0, decide_eq_false m0, qW_no]
      have h2 := tie_Rs b m 0 n1
      cases e2 : pRs b m 0 n1 with
      | error z =>
        rw [e2] at h2
        obtain ⟨h2, hz⟩ := h2
        simp only
        rw [h2, qW_bad hz]
        exact ⟨rfl, hz⟩
      | ok p =>
        obtain ⟨l, n2⟩ := p
        rw [e2] at h2
        have h2 : qRs b m 0 n1 0 = (l, n2, 0) := h2
        rw [h2]
        simp only
        cases hr : rnB l
        · simp [qW, Tie]
        · simp [qW, Tie]
theorem qRuns_bad {b : List Int} {at' : Nat} {e : Int} (h : e ≠ 0) : qRuns b at' e = ([], at', e) := by
  unfold qRuns
  simp only [qU_bad h, qW_bad h]
  rw [qRs_bad h, qW_bad h]
theorem tie_L (b : List Int) (kd : Int) (h1 : 1 ≤ kd) (h3 : kd ≤ 3) (at' : Nat) : Tie (pL b kd at') (qL b kd at' 0) := by
  have tA : ∀ (R N D : Int) (a : Nat), Tie (pLA b R N D a) (⟨(qS b a 0).1, R, N, D⟩, (qS b a 0).2.1, (qS b a 0).2.2) := by
    intro R N D a
    unfold pLA
    cases h : pS b a with
    | error z =>
      have hz : z ≠ 0 := by have := pS_err h; omega
      rw [qS_er h]
      exact ⟨rfl, hz⟩
    | ok p =>
      obtain ⟨A, nx⟩ := p
      rw [qS_ok h]
      rfl
  have tN : ∀ (R : Int) (a : Nat), Tie (pLN b R a) (⟨(qS b (qU b 281474976710656 (qS b a 0).2.1 (qS b a 0).2.2).2.1 (qU b 281474976710656 (qS b a 0).2.1 (qS b a 0).2.2).2.2).1, R, (qS b a 0).1, ((qU b 281474976710656 (qS b a 0).2.1 (qS b a 0).2.2).1 : Int)⟩, (qS b (qU b 281474976710656 (qS b a 0).2.1 (qS b a 0).2.2).2.1 (qU b 281474976710656 (qS b a 0).2.1 (qS b a 0).2.2).2.2).2.1, (qS b (qU b 281474976710656 (qS b a 0).2.1 (qS b a 0).2.2).2.1 (qU b 281474976710656 (qS b a 0).2.1 (qS b a 0).2.2).2.2).2.2) := by
    intro R a
    unfold pLN
    cases h : pS b a with
    | error z =>
      have hz : z ≠ 0 := by have := pS_err h; omega
      rw [qS_er h]
      simp only
      rw [qU_bad hz]
      simp only
      rw [qS_bad hz]
      exact ⟨rfl, hz⟩
    | ok p =>
      obtain ⟨N, n1⟩ := p
      rw [qS_ok h]
      simp only
      cases h2 : pU b 281474976710656 n1 with
      | error z =>
        have hz : z ≠ 0 := by have := pU_err h2; omega
        rw [qU_er h2]
        simp only
        rw [qS_bad hz]
        exact ⟨rfl, hz⟩
      | ok p =>
        obtain ⟨D, n2⟩ := p
        rw [qU_ok h2]
        exact tA R N D n2
  unfold pL qL
  rcases (show kd = 1 ∨ kd = 2 ∨ kd = 3 by omega) with rfl | rfl | rfl
  · simp only [show ¬ ((1 : Int) = 3) by decide, show ¬ ((1 : Int) = 2) by decide, show ¬ ((1 : Int) < 1) by decide, if_false, if_true]
    exact tA 0 0 1 at'
  · simp only [show ¬ ((2 : Int) = 3) by decide, show ((1 : Int) < 2) by decide, if_false, if_true]
    exact tN 0 at'
  · simp only [show ((1 : Int) < 3) by decide, if_true]
    cases h : pU b 281474976710656 at' with
    | error z =>
      have hz : z ≠ 0 := by have := pU_err h; omega
      rw [qU_er h]
      simp only
      rw [qS_bad hz]
      simp only
      rw [qU_bad hz]
      simp only
      rw [qS_bad hz]
      exact ⟨rfl, hz⟩
    | ok p =>
      obtain ⟨R, n1⟩ := p
      rw [qU_ok h]
      exact tN R n1
theorem qL_bad {b : List Int} {kd : Int} {at' : Nat} {e : Int} (h : e ≠ 0) : (qL b kd at' e).2.2 = e := by
  unfold qL
  have h1 : (if kd = 3 then qU b 281474976710656 at' e else (0, at', e)) = (0, at', e) := by
    split
    · exact qU_bad h
    · rfl
  simp only [h1]
  have h2 : (if 1 < kd then qS b at' e else (0, at', e)) = (0, at', e) := by
    split
    · exact qS_bad h
    · rfl
  simp only [h2]
  have h3 : (if 1 < kd then qU b 281474976710656 at' e else (1, at', e)).2 = (at', e) := by
    split
    · rw [qU_bad h]
    · rfl
  simp only [h3]
  rw [qS_bad h]
theorem qVs_bad {b : List Int} : ∀ {m : Nat} {v : Int} {at' : Nat} {e : Int}, e ≠ 0 → qVs b m v at' e = ([], at', e)
  | 0, _, _, _, _ => rfl
  | m + 1, _, _, _, h => by rw [qVs, if_neg h]
theorem farV_bk {v n : Int} (hv : bkV v = true) : farV v n = !(bkV (v + n)) := by
  have := bkV_spec hv
  unfold farV bkV
  by_cases h1 : 2305844108725321728 - v < n
  · rw [decide_eq_true h1, decide_eq_false (show ¬ v + n ≤ 2305844108725321728 by omega)]; simp
  · rw [decide_eq_false h1, decide_eq_true (show v + n ≤ 2305844108725321728 by omega)]
    by_cases h2 : n < -2305844108725321728 - v
    · rw [decide_eq_true h2, decide_eq_false (by omega)]; rfl
    · rw [decide_eq_false h2, decide_eq_true (by omega)]; rfl
theorem tie_Vs (b : List Int) : ∀ (m : Nat) (v : Int) (at' : Nat), bkV v = true → Tie (pVs b m v at') (qVs b m v at' 0)
  | 0, _, _, _ => rfl
  | m + 1, v, at', hv => by
    rw [pVs, qVs, if_pos rfl]
    cases h1 : pS b at' with
    | error z =>
      have hz : z ≠ 0 := by have := pS_err h1; omega
      rw [qS_er h1]
      simp only
      rw [qW_bad hz, qVs_bad hz]
      exact ⟨rfl, hz⟩
    | ok p =>
      obtain ⟨d, n1⟩ := p
      rw [qS_ok h1]
      simp only
      rw [farV_bk hv]
      by_cases hb : bkV (v + d) = true
      · have hbb := bkV_spec hb
        have hw : IntKind.i64.wrap (v + d) = v + d := IntWalk.i64_in _ (by omega)
        rw [if_pos hb, hw, hb, Bool.not_true, qW_no]
        have h2 := tie_Vs b m (v + d) n1 hb
        cases e2 : pVs b m (v + d) n1 with
        | error z =>
          rw [e2] at h2
          exact h2
        | ok p =>
          obtain ⟨l, ny⟩ := p
          rw [e2] at h2
          have h2 : qVs b m (v + d) n1 0 = (l, ny, 0) := h2
          rw [h2]
          rfl
      · rw [if_neg hb]
        have hb' : bkV (v + d) = false := by simpa using hb
        rw [hb', Bool.not_false, qW_yes, qVs_bad (by decide)]
        exact ⟨rfl, by decide⟩
end Go.Proofs.YtmpfbkeamihjbaaGreat

namespace Go.Proofs.YtmpfbkeamihjbaaGreat
open Go.RowKit
attribute [local go_sem] Oper.semAt_some

theorem r3_at2' {w : World} {g : Nat} {a0 a1 a2 : Value} {t : TypeId} {f : Nat × Nat} (h : w.heap[g]? = some (.cells #[a0, a1, a2] t f)) (v : Value) : w.setCell ⟨g, 2, none⟩ v = setRow w g #[a0, a1, v] := setRow_of_setCell h v rfl
theorem r3_at1' {w : World} {g : Nat} {a0 a1 a2 : Value} {t : TypeId} {f : Nat × Nat} (h : w.heap[g]? = some (.cells #[a0, a1, a2] t f)) (v : Value) : w.setCell ⟨g, 1, none⟩ v = setRow w g #[a0, v, a2] := setRow_of_setCell h v rfl
/-- the reader: where it stands, and the first error -/
structure Red (g : Nat) (B : Option Addr) (c : Nat) (b : List Int) (at' : Nat) (e : Int) (w : World) : Prop where
  hg : w.heap[g]? = some (.cells #[.slice B b.length c, .int .i64 (at' : Int), .int .i64 e] 81 (0, 0))
  hy : YR w B c b
  le : at' ≤ b.length
section
variable {g : Nat} {B : Option Addr} {c : Nat} {b : List Int}
theorem Red.below {at' : Nat} {e : Int} {w w' : World} (h : Red g B c b at' e w) (hb : Below w.heap.size w w') : Red g B c b at' e w' := ⟨kp hb h.hg, h.hy.below hb, h.le⟩
theorem Red.lt {at' : Nat} {e : Int} {w : World} (h : Red g B c b at' e w) : g < w.heap.size := (rcell h.hg).2.2
theorem RR.we {at' : Nat} {e : Int} {w w1 : World} {A : Option Addr} {d : Nat} {l : List Rn} (h : RR w A d l) (hx : Exc g w w1) (hg : Red g B c b at' e w) : RR w1 A d l := h.exc hx hg.hg (by decide)
theorem CR.we {at' : Nat} {e : Int} {w w1 : World} {A : Option Addr} {d : Nat} {l : List Int} (h : VR w A d l) (hx : Exc g w w1) (hg : Red g B c b at' e w) : VR w1 A d l := h.exc hx hg.hg (by decide)
theorem Red.lowB {n at' : Nat} {e : Int} {w w1 : World} (h : Red g B c b at' e w) (hg : g < n) (hB : 0 < b.length → ∃ gy o, B = some ⟨gy, o, none⟩ ∧ gy < n) (hb : Below n w w1) : Red g B c b at' e w1 :=
  ⟨(hb.block g hg).trans h.hg, ⟨h.hy.cap, h.hy.top, fun hl => by
    obtain ⟨gy, o, cur, e, h1, h2⟩ := h.hy.mem hl
    obtain ⟨gy', o', e', h3⟩ := hB hl
    rw [e] at e'
    injection e' with e'
    injection e' with e1 e2
    subst e1
    exact ⟨gy, o, cur, e, (hb.block gy h3).trans h1, h2⟩⟩, h.le⟩
theorem Red.low {at' : Nat} {e : Int} {w : World} (h : Red g B c b at' e w) : 0 < b.length → ∃ gy o, B = some ⟨gy, o, none⟩ ∧ gy < w.heap.size := fun hl => by
  obtain ⟨gy, o, cur, e, h1, h2⟩ := h.hy.mem hl
  exact ⟨gy, o, e, (Array.getElem?_eq_some_iff.1 h1).1⟩
end

section
variable (g : Nat) (B : Option Addr) (c : Nat) (b : List Int) (hb : Byt b) (at' : Nat) (e0 : Int)
set_option maxRecDepth 100000 in
theorem c_wrong (is : Bool) (w : World) (h : Red g B c b at' e0 w) :
    Calls Tryz.prog 48 #[.pointer (some ⟨g, 0, none⟩), .bool is] w fun e w' => e = .returned (.tuple #[]) ∧ Exc g w w' ∧ Red g B c b at' (qW is e0) w' := by
  have hg := h.hg
  have hy := h.hy
  have hle := h.le
  by_cases he : e0 = 0
  · subst he
    cases is
    · have hres : Hid (qW false 0 = 0) := hide rfl
      have lgw : g < w.heap.size := h.lt
      go_enter Tryz.func48, Tryz.ntmps48
      obtain ⟨zg_a, zg_b, lg0⟩ := rcell hg
      go_wp2
      go_end0
      exact ⟨rfl, (x0 g w (Nat.le_of_lt h.lt)), by rw [hres.out]; exact h⟩
    · have hres : Hid (qW true 0 = 7) := hide rfl
      have lgw : g < w.heap.size := h.lt
      go_enter Tryz.func48, Tryz.ntmps48
      obtain ⟨zg_a, zg_b, lg0⟩ := rcell hg
      go_wp2
      rw [r3_at2' (hg)]
      generalize hT : setRow _ g _ = w3
      obtain ⟨hx, f3⟩ := fin_x (b0 _) (hg) hT
      clear hT
      go_end0
      exact ⟨rfl, ((x0 g w (Nat.le_of_lt h.lt))).trans hx, by rw [hres.out]; exact ⟨f3, hy.exc hx hg (by decide), hle⟩⟩
  · have d0 : (e0 == 0) = false := by simp [he]
    have hres : Hid (qW is e0 = e0) := hide (qW_bad he)
    clear he
    have lgw : g < w.heap.size := h.lt
    go_enter Tryz.func48, Tryz.ntmps48
    obtain ⟨zg_a, zg_b, lg0⟩ := rcell hg
    go_wp2
    go_end0
    exact ⟨rfl, (x0 g w (Nat.le_of_lt h.lt)), by rw [hres.out]; exact h⟩

set_option maxRecDepth 100000 in
set_option maxHeartbeats 2000000 in
include hb in
theorem c_plain (most : Nat) (hm : most ≤ 4611686018427387904) (w : World) (h : Red g B c b at' e0 w) :
    Calls Tryz.prog 44 #[.pointer (some ⟨g, 0, none⟩), .int .u64 (most : Int)] w fun e w' => e = .returned (.int .i64 ((qU b most at' e0).1 : Int)) ∧ Exc g w w' ∧ Red g B c b (qU b most at' e0).2.1 (qU b most at' e0).2.2 w' := by
  have c1 := fun w hy => ref02_Get B c at' b hb h.le w hy
  have hle := @gU_le b at'
  have hy := h.hy
  have hg := h.hg
  by_cases he : e0 = 0
  · subst he
    cases hr : gt (b.drop at') 0 0 with
    | error x =>
      rw [hr] at c1
      have hgu : gU b at' = .error x := by unfold gU; rw [hr]
      have hx := gU_err hgu
      have dx : (x == 0) = false := by simp; omega
      have dx2 : (x != 0) = true := by simp; omega
      have hres : Hid (qU b most at' 0 = (0, at', x)) := hide (qU_er (by unfold pU; rw [hgu]))
      clear hr hle hgu
      have lgw : g < w.heap.size := h.lt
      go_enter Tryz.func44, Tryz.ntmps44
      obtain ⟨zg_a, zg_b, lg0⟩ := rcell hg
      go_wp2_with fail
      refine Abs.wp_region_abs (Abs.cls0 _) [0, 1, 2, 3, 4, 5, 6, 7, 8, 9, 10, 11, 12, 13, 14, 15] (by kernel_rfl) (by kernel_rfl) (Below.refl _ _).drew ?_
      repeat (first | (refine Abs.step_pure rfl rfl (fun K hK => ?_); go_simp; (try go_bits); (first | refine hK _ _ ?_ | (simp only [↓IntWalk.iteOmega]; go_simp; (try go_bits); refine hK _ _ ?_)); clear hK K) | (refine Abs.step_load (v := ?_) rfl rfl (by kernel_rfl) rfl (fun w0 hI => ?_) (fun K hK => ?_); rotate_left; (· have z0 := (rcell (kp hI (hg))).1; go_simp; rfl); (simp only [Act.put, List.setIfInBounds_toArray, List.set_cons_zero, List.set_cons_succ]; refine hK _ _ ?_; clear hK K)) | (refine Abs.step_skip rfl rfl (fun K hK => ?_); (simp only [Act.put, List.setIfInBounds_toArray, List.set_cons_zero, List.set_cons_succ]; refine hK _ _ ?_; clear hK K)))
      (refine Abs.step_call_val (f := ?_) (args := ?_) (v := ?_) rfl rfl rfl rfl (fun w0 => ?_) (fun w0 hI => ?_) (fun K hK => ?_); rotate_left 3; (· go_simp; (constructor <;> rfl)); (· exact c1 _ (hy.below hI)); (simp only [Act.put, List.setIfInBounds_toArray, List.set_cons_zero, List.set_cons_succ]; refine hK _ _ ?_; clear hK K))
      repeat (first | (refine Abs.step_pure rfl rfl (fun K hK => ?_); go_simp; (try go_bits); (first | refine hK _ _ ?_ | (simp only [↓IntWalk.iteOmega]; go_simp; (try go_bits); refine hK _ _ ?_)); clear hK K) | (refine Abs.step_load (v := ?_) rfl rfl (by kernel_rfl) rfl (fun w0 hI => ?_) (fun K hK => ?_); rotate_left; (· have z0 := (rcell (kp hI (hg))).1; go_simp; rfl); (simp only [Act.put, List.setIfInBounds_toArray, List.set_cons_zero, List.set_cons_succ]; refine hK _ _ ?_; clear hK K)) | (refine Abs.step_skip rfl rfl (fun K hK => ?_); (simp only [Act.put, List.setIfInBounds_toArray, List.set_cons_zero, List.set_cons_succ]; refine hK _ _ ?_; clear hK K)))
      intro w2 hb2 hx0 hx1 hx2
      clear hx0 hx1 hx2
      simp only [Abs.T_setF, Abs.T_addA, Abs.T_push, Abs.T_start]
      have f_g2 := kp hb2 (hg)
      have rd_W2 := h.below hb2
      have rd_y2 := hy.below hb2
      have hB2 := xB (x0 g w (Nat.le_of_lt h.lt)) hb2
      clear zg_a zg_b
      obtain ⟨zg_a, zg_b, lg2⟩ := rcell f_g2
      go_wp2_with fail
      rw [r3_at2' (f_g2)]
      generalize hT : setRow _ g _ = w3
      obtain ⟨hx, f3⟩ := fin_x (b0 _) (f_g2) hT
      clear hT
      go_ret
      exact ⟨by rw [hres.out]; rfl, (hB2).trans hx, by rw [hres.out]; exact ⟨f3, (rd_y2).exc hx (f_g2) (by decide), h.le⟩⟩
    | ok p =>
      obtain ⟨N, k⟩ := p
      rw [hr] at c1
      have hgu : gU b at' = .ok (N, at' + k) := by unfold gU; rw [hr]
      have hl := hle h.le hgu
      have hn64 := gU_lt hb hgu
      have hcap := hy.cap
      have htop := hy.top
      have hw : wrap64 ((at' : Int) + (k : Int)) = ((at' + k : Nat) : Int) := by unfold wrap64; omega
      by_cases hN : N ≤ most
      · have hres : Hid (qU b most at' 0 = (N, at' + k, 0)) := hide (qU_ok (by unfold pU; rw [hgu]; simp only; rw [if_pos hN]))
        have dn : decide (most < N) = false := by simp; omega
        have dp : ¬ most < N := by omega
        have HC := hide (show ((at' + k : Nat) : Int) = (at' : Int) + (k : Int) by omega)
        clear hr hle hgu
        have lgw : g < w.heap.size := h.lt
        go_enter Tryz.func44, Tryz.ntmps44
        obtain ⟨zg_a, zg_b, lg0⟩ := rcell hg
        go_wp2_with fail
        refine Abs.wp_region_abs (Abs.cls0 _) [0, 1, 2, 3, 4, 5, 6, 7, 8, 9, 10, 11, 12, 13, 14, 15] (by kernel_rfl) (by kernel_rfl) (Below.refl _ _).drew ?_
        repeat (first | (refine Abs.step_pure rfl rfl (fun K hK => ?_); go_simp; (try go_bits); (first | refine hK _ _ ?_ | (simp only [↓IntWalk.iteOmega]; go_simp; (try go_bits); refine hK _ _ ?_)); clear hK K) | (refine Abs.step_load (v := ?_) rfl rfl (by kernel_rfl) rfl (fun w0 hI => ?_) (fun K hK => ?_); rotate_left; (· have z0 := (rcell (kp hI (hg))).1; go_simp; rfl); (simp only [Act.put, List.setIfInBounds_toArray, List.set_cons_zero, List.set_cons_succ]; refine hK _ _ ?_; clear hK K)) | (refine Abs.step_skip rfl rfl (fun K hK => ?_); (simp only [Act.put, List.setIfInBounds_toArray, List.set_cons_zero, List.set_cons_succ]; refine hK _ _ ?_; clear hK K)))
        (refine Abs.step_call_val (f := ?_) (args := ?_) (v := ?_) rfl rfl rfl rfl (fun w0 => ?_) (fun w0 hI => ?_) (fun K hK => ?_); rotate_left 3; (· go_simp; (constructor <;> rfl)); (· exact c1 _ (hy.below hI)); (simp only [Act.put, List.setIfInBounds_toArray, List.set_cons_zero, List.set_cons_succ]; refine hK _ _ ?_; clear hK K))
        repeat (first | (refine Abs.step_pure rfl rfl (fun K hK => ?_); go_simp; (try go_bits); (first | refine hK _ _ ?_ | (simp only [↓IntWalk.iteOmega]; go_simp; (try go_bits); refine hK _ _ ?_)); clear hK K) | (refine Abs.step_load (v := ?_) rfl rfl (by kernel_rfl) rfl (fun w0 hI => ?_) (fun K hK => ?_); rotate_left; (· have z0 := (rcell (kp hI (hg))).1; go_simp; rfl); (simp only [Act.put, List.setIfInBounds_toArray, List.set_cons_zero, List.set_cons_succ]; refine hK _ _ ?_; clear hK K)) | (refine Abs.step_skip rfl rfl (fun K hK => ?_); (simp only [Act.put, List.setIfInBounds_toArray, List.set_cons_zero, List.set_cons_succ]; refine hK _ _ ?_; clear hK K)))
        intro w2 hb2 hx0 hx1 hx2
        clear hx0 hx1 hx2
        simp only [Abs.T_setF, Abs.T_addA, Abs.T_push, Abs.T_start]
        have f_g2 := kp hb2 (hg)
        have rd_W2 := h.below hb2
        have rd_y2 := hy.below hb2
        have hB2 := xB (x0 g w (Nat.le_of_lt h.lt)) hb2
        clear zg_a zg_b
        obtain ⟨zg_a, zg_b, lg2⟩ := rcell f_g2
        go_wp2_with fail
        rw [r3_at1' (f_g2)]
        generalize hT : setRow _ g _ = w3
        obtain ⟨hx, f3⟩ := fin_x (b0 _) (f_g2) hT
        clear hT
        go_ret
        exact ⟨by rw [hres.out]; rfl, (hB2).trans hx, by rw [hres.out]; exact ⟨by rw [HC.out]; exact f3, (rd_y2).exc hx (f_g2) (by decide), hl.2⟩⟩
      · have hres : Hid (qU b most at' 0 = (0, at', 7)) := hide (qU_er (by unfold pU; rw [hgu]; simp only; rw [if_neg hN]))
        have dn : decide (most < N) = true := by simp; omega
        have dp : most < N := by omega
        clear hr hle hgu
        have lgw : g < w.heap.size := h.lt
        go_enter Tryz.func44, Tryz.ntmps44
        obtain ⟨zg_a, zg_b, lg0⟩ := rcell hg
        go_wp2_with fail
        refine Abs.wp_region_abs (Abs.cls0 _) [0, 1, 2, 3, 4, 5, 6, 7, 8, 9, 10, 11, 12, 13, 14, 15] (by kernel_rfl) (by kernel_rfl) (Below.refl _ _).drew ?_
        repeat (first | (refine Abs.step_pure rfl rfl (fun K hK => ?_); go_simp; (try go_bits); (first | refine hK _ _ ?_ | (simp only [↓IntWalk.iteOmega]; go_simp; (try go_bits); refine hK _ _ ?_)); clear hK K) | (refine Abs.step_load (v := ?_) rfl rfl (by kernel_rfl) rfl (fun w0 hI => ?_) (fun K hK => ?_); rotate_left; (· have z0 := (rcell (kp hI (hg))).1; go_simp; rfl); (simp only [Act.put, List.setIfInBounds_toArray, List.set_cons_zero, List.set_cons_succ]; refine hK _ _ ?_; clear hK K)) | (refine Abs.step_skip rfl rfl (fun K hK => ?_); (simp only [Act.put, List.setIfInBounds_toArray, List.set_cons_zero, List.set_cons_succ]; refine hK _ _ ?_; clear hK K)))
        (refine Abs.step_call_val (f := ?_) (args := ?_) (v := ?_) rfl rfl rfl rfl (fun w0 => ?_) (fun w0 hI => ?_) (fun K hK => ?_); rotate_left 3; (· go_simp; (constructor <;> rfl)); (· exact c1 _ (hy.below hI)); (simp only [Act.put, List.setIfInBounds_toArray, List.set_cons_zero, List.set_cons_succ]; refine hK _ _ ?_; clear hK K))
        repeat (first | (refine Abs.step_pure rfl rfl (fun K hK => ?_); go_simp; (try go_bits); (first | refine hK _ _ ?_ | (simp only [↓IntWalk.iteOmega]; go_simp; (try go_bits); refine hK _ _ ?_)); clear hK K) | (refine Abs.step_load (v := ?_) rfl rfl (by kernel_rfl) rfl (fun w0 hI => ?_) (fun K hK => ?_); rotate_left; (· have z0 := (rcell (kp hI (hg))).1; go_simp; rfl); (simp only [Act.put, List.setIfInBounds_toArray, List.set_cons_zero, List.set_cons_succ]; refine hK _ _ ?_; clear hK K)) | (refine Abs.step_skip rfl rfl (fun K hK => ?_); (simp only [Act.put, List.setIfInBounds_toArray, List.set_cons_zero, List.set_cons_succ]; refine hK _ _ ?_; clear hK K)))
        intro w2 hb2 hx0 hx1 hx2
        clear hx0 hx1 hx2
        simp only [Abs.T_setF, Abs.T_addA, Abs.T_push, Abs.T_start]
        have f_g2 := kp hb2 (hg)
        have rd_W2 := h.below hb2
        have rd_y2 := hy.below hb2
        have hB2 := xB (x0 g w (Nat.le_of_lt h.lt)) hb2
        clear zg_a zg_b
        obtain ⟨zg_a, zg_b, lg2⟩ := rcell f_g2
        go_wp2_with fail
        rw [r3_at2' (f_g2)]
        generalize hT : setRow _ g _ = w3
        obtain ⟨hx, f3⟩ := fin_x (b0 _) (f_g2) hT
        clear hT
        go_ret
        exact ⟨by rw [hres.out]; rfl, (hB2).trans hx, by rw [hres.out]; exact ⟨f3, (rd_y2).exc hx (f_g2) (by decide), h.le⟩⟩
  · have d0 : (e0 != 0) = true := by simp [he]
    have d1 : (e0 == 0) = false := by simp [he]
    have hres : Hid (qU b most at' e0 = (0, at', e0)) := hide (qU_bad he)
    clear he hle c1
    have lgw : g < w.heap.size := h.lt
    go_enter Tryz.func44, Tryz.ntmps44
    obtain ⟨zg_a, zg_b, lg0⟩ := rcell hg
    go_wp2
    go_ret
    exact ⟨by rw [hres.out]; rfl, (x0 g w (Nat.le_of_lt h.lt)), by rw [hres.out]; exact h⟩

set_option maxRecDepth 100000 in
set_option maxHeartbeats 2000000 in
include hb in
theorem c_signed (w : World) (h : Red g B c b at' e0 w) :
    Calls Tryz.prog 73 #[.pointer (some ⟨g, 0, none⟩)] w fun e w' => e = .returned (.int .i64 (qS b at' e0).1) ∧ Exc g w w' ∧ Red g B c b (qS b at' e0).2.1 (qS b at' e0).2.2 w' := by
  have c1 := fun w hy => ref02_Number B c at' b hb h.le w hy
  have hle := @pS_gU b at'
  have hy := h.hy
  have hg := h.hg
  by_cases he : e0 = 0
  · subst he
    cases hr : pS b at' with
    | error x =>
      rw [hr] at c1
      have hx := pS_err hr
      have dx : (x == 0) = false := by simp; omega
      have dx2 : (x != 0) = true := by simp; omega
      have hres : Hid (qS b at' 0 = (0, at', x)) := hide (qS_er hr)
      clear hr hle
      have lgw : g < w.heap.size := h.lt
      go_enter Tryz.func73, Tryz.ntmps73
      obtain ⟨zg_a, zg_b, lg0⟩ := rcell hg
      go_wp2_with fail
      refine Abs.wp_region_abs (Abs.cls0 _) [0, 1, 2, 3, 4, 5, 6, 7, 8, 9, 10, 11, 12, 13, 14, 15] (by kernel_rfl) (by kernel_rfl) (Below.refl _ _).drew ?_
      repeat (first | (refine Abs.step_pure rfl rfl (fun K hK => ?_); go_simp; (try go_bits); (first | refine hK _ _ ?_ | (simp only [↓IntWalk.iteOmega]; go_simp; (try go_bits); refine hK _ _ ?_)); clear hK K) | (refine Abs.step_load (v := ?_) rfl rfl (by kernel_rfl) rfl (fun w0 hI => ?_) (fun K hK => ?_); rotate_left; (· have z0 := (rcell (kp hI (hg))).1; go_simp; rfl); (simp only [Act.put, List.setIfInBounds_toArray, List.set_cons_zero, List.set_cons_succ]; refine hK _ _ ?_; clear hK K)) | (refine Abs.step_skip rfl rfl (fun K hK => ?_); (simp only [Act.put, List.setIfInBounds_toArray, List.set_cons_zero, List.set_cons_succ]; refine hK _ _ ?_; clear hK K)))
      (refine Abs.step_call_val (f := ?_) (args := ?_) (v := ?_) rfl rfl rfl rfl (fun w0 => ?_) (fun w0 hI => ?_) (fun K hK => ?_); rotate_left 3; (· go_simp; (constructor <;> rfl)); (· exact c1 _ (hy.below hI)); (simp only [Act.put, List.setIfInBounds_toArray, List.set_cons_zero, List.set_cons_succ]; refine hK _ _ ?_; clear hK K))
      repeat (first | (refine Abs.step_pure rfl rfl (fun K hK => ?_); go_simp; (try go_bits); (first | refine hK _ _ ?_ | (simp only [↓IntWalk.iteOmega]; go_simp; (try go_bits); refine hK _ _ ?_)); clear hK K) | (refine Abs.step_load (v := ?_) rfl rfl (by kernel_rfl) rfl (fun w0 hI => ?_) (fun K hK => ?_); rotate_left; (· have z0 := (rcell (kp hI (hg))).1; go_simp; rfl); (simp only [Act.put, List.setIfInBounds_toArray, List.set_cons_zero, List.set_cons_succ]; refine hK _ _ ?_; clear hK K)) | (refine Abs.step_skip rfl rfl (fun K hK => ?_); (simp only [Act.put, List.setIfInBounds_toArray, List.set_cons_zero, List.set_cons_succ]; refine hK _ _ ?_; clear hK K)))
      intro w2 hb2 hx0 hx1 hx2
      clear hx0 hx1 hx2
      simp only [Abs.T_setF, Abs.T_addA, Abs.T_push, Abs.T_start]
      have f_g2 := kp hb2 (hg)
      have rd_W2 := h.below hb2
      have rd_y2 := hy.below hb2
      have hB2 := xB (x0 g w (Nat.le_of_lt h.lt)) hb2
      clear zg_a zg_b
      obtain ⟨zg_a, zg_b, lg2⟩ := rcell f_g2
      go_wp2_with fail
      rw [r3_at2' (f_g2)]
      generalize hT : setRow _ g _ = w3
      obtain ⟨hx, f3⟩ := fin_x (b0 _) (f_g2) hT
      clear hT
      go_ret
      exact ⟨by rw [hres.out]; rfl, (hB2).trans hx, by rw [hres.out]; exact ⟨f3, (rd_y2).exc hx (f_g2) (by decide), h.le⟩⟩
    | ok p =>
      obtain ⟨n, nx⟩ := p
      rw [hr] at c1
      obtain ⟨N, hN, -⟩ := hle hr
      have hl := gU_le h.le hN
      have hres : Hid (qS b at' 0 = (n, nx, 0)) := hide (qS_ok hr)
      clear hr hle hN
      have lgw : g < w.heap.size := h.lt
      go_enter Tryz.func73, Tryz.ntmps73
      obtain ⟨zg_a, zg_b, lg0⟩ := rcell hg
      go_wp2_with fail
      refine Abs.wp_region_abs (Abs.cls0 _) [0, 1, 2, 3, 4, 5, 6, 7, 8, 9, 10, 11, 12, 13, 14, 15] (by kernel_rfl) (by kernel_rfl) (Below.refl _ _).drew ?_
      repeat (first | (refine Abs.step_pure rfl rfl (fun K hK => ?_); go_simp; (try go_bits); (first | refine hK _ _ ?_ | (simp only [↓IntWalk.iteOmega]; go_simp; (try go_bits); refine hK _ _ ?_)); clear hK K) | (refine Abs.step_load (v := ?_) rfl rfl (by kernel_rfl) rfl (fun w0 hI => ?_) (fun K hK => ?_); rotate_left; (· have z0 := (rcell (kp hI (hg))).1; go_simp; rfl); (simp only [Act.put, List.setIfInBounds_toArray, List.set_cons_zero, List.set_cons_succ]; refine hK _ _ ?_; clear hK K)) | (refine Abs.step_skip rfl rfl (fun K hK => ?_); (simp only [Act.put, List.setIfInBounds_toArray, List.set_cons_zero, List.set_cons_succ]; refine hK _ _ ?_; clear hK K)))
      (refine Abs.step_call_val (f := ?_) (args := ?_) (v := ?_) rfl rfl rfl rfl (fun w0 => ?_) (fun w0 hI => ?_) (fun K hK => ?_); rotate_left 3; (· go_simp; (constructor <;> rfl)); (· exact c1 _ (hy.below hI)); (simp only [Act.put, List.setIfInBounds_toArray, List.set_cons_zero, List.set_cons_succ]; refine hK _ _ ?_; clear hK K))
      repeat (first | (refine Abs.step_pure rfl rfl (fun K hK => ?_); go_simp; (try go_bits); (first | refine hK _ _ ?_ | (simp only [↓IntWalk.iteOmega]; go_simp; (try go_bits); refine hK _ _ ?_)); clear hK K) | (refine Abs.step_load (v := ?_) rfl rfl (by kernel_rfl) rfl (fun w0 hI => ?_) (fun K hK => ?_); rotate_left; (· have z0 := (rcell (kp hI (hg))).1; go_simp; rfl); (simp only [Act.put, List.setIfInBounds_toArray, List.set_cons_zero, List.set_cons_succ]; refine hK _ _ ?_; clear hK K)) | (refine Abs.step_skip rfl rfl (fun K hK => ?_); (simp only [Act.put, List.setIfInBounds_toArray, List.set_cons_zero, List.set_cons_succ]; refine hK _ _ ?_; clear hK K)))
      intro w2 hb2 hx0 hx1 hx2
      clear hx0 hx1 hx2
      simp only [Abs.T_setF, Abs.T_addA, Abs.T_push, Abs.T_start]
      have f_g2 := kp hb2 (hg)
      have rd_W2 := h.below hb2
      have rd_y2 := hy.below hb2
      have hB2 := xB (x0 g w (Nat.le_of_lt h.lt)) hb2
      clear zg_a zg_b
      obtain ⟨zg_a, zg_b, lg2⟩ := rcell f_g2
      go_wp2_with fail
      rw [r3_at1' (f_g2)]
      generalize hT : setRow _ g _ = w3
      obtain ⟨hx, f3⟩ := fin_x (b0 _) (f_g2) hT
      clear hT
      go_ret
      exact ⟨by rw [hres.out]; rfl, (hB2).trans hx, by rw [hres.out]; exact ⟨f3, (rd_y2).exc hx (f_g2) (by decide), hl.2⟩⟩
  · have d0 : (e0 != 0) = true := by simp [he]
    have d1 : (e0 == 0) = false := by simp [he]
    have hres : Hid (qS b at' e0 = (0, at', e0)) := hide (qS_bad he)
    clear he hle c1
    have lgw : g < w.heap.size := h.lt
    go_enter Tryz.func73, Tryz.ntmps73
    obtain ⟨zg_a, zg_b, lg0⟩ := rcell hg
    go_wp2
    go_ret
    exact ⟨by rw [hres.out]; rfl, (x0 g w (Nat.le_of_lt h.lt)), by rw [hres.out]; exact h⟩
end
end Go.Proofs.YtmpfbkeamihjbaaGreat

namespace Go.Proofs.YtmpfbkeamihjbaaGreat
open Go.RowKit
attribute [local go_sem] Oper.semAt_some

theorem Red.exc {g k : Nat} {B : Option Addr} {c : Nat} {b : List Int} {at' : Nat} {e : Int} {w w1 : World} {cs : Array Value} {t : TypeId} (h : Red g B c b at' e w) (hx : Exc k w w1) (hk : w.heap[k]? = some (.cells cs t (0, 0))) (ht : t ≠ 81 ∧ t ≠ 5) : Red g B c b at' e w1 := by
  refine ⟨kx hx h.hg ?_, h.hy.exc hx hk ht.2, h.le⟩
  rintro rfl
  have h1 := h.hg
  rw [hk] at h1
  injection h1 with h1
  injection h1 with _ h2 _
  exact ht.1 h2
section
variable (g : Nat) (B : Option Addr) (c : Nat) (b : List Int) (hb : Byt b) (at' : Nat) (e0 : Int)
set_option maxRecDepth 100000 in
set_option maxHeartbeats 4000000 in
include hb in
theorem c_line1 (w : World) (h : Red g B c b at' e0 w) : Calls Tryz.prog 47 #[.pointer (some ⟨g, 0, none⟩), .int .i64 1] w fun e w' => e = .returned (l4V (qL b 1 at' e0).1) ∧ Exc g w w' ∧ Red g B c b (qL b 1 at' e0).2.1 (qL b 1 at' e0).2.2 w' := by
  have k1 := fun w h => c_signed g B c b hb at' e0 w h
  generalize hp1 : qS b at' e0 = p1 at k1
  obtain ⟨y1, n1, z1⟩ := p1
  simp only at k1
  have E1 := hide hp1
  clear hp1
  have hres : Hid (qL b 1 at' e0 = (⟨y1, 0, 0, 1⟩, n1, z1)) := hide (by simp [qL, E1.out])
  have lgw : g < w.heap.size := h.lt
  go_enter Tryz.func47, Tryz.ntmps47
  go_wp2_with fail
  refine (k1 _ (h.below (bA (bA (b0 _) (.cells #[.int .i64 0, .int .i64 0, .int .i64 0, .int .i64 0] 24)) (.cells #[.int .i64 0, .int .i64 0, .int .i64 0, .int .i64 1] 24)))).mono ?_
  rintro e w1 ⟨rfl, hx1, rn_W1⟩
  have f_o1 := kx hx1 (ka (na w #[.int .i64 0, .int .i64 0, .int .i64 0, .int .i64 0] 24) (.cells #[.int .i64 0, .int .i64 0, .int .i64 0, .int .i64 1] 24)) (by omega)
  have f_l1 := kx hx1 (na1 w (.cells #[.int .i64 0, .int .i64 0, .int .i64 0, .int .i64 0] 24) #[.int .i64 0, .int .i64 0, .int .i64 0, .int .i64 1] 24) (by omega)
  have hB1 := xX (xA (xA (x0 g w (Nat.le_of_lt h.lt)) (.cells #[.int .i64 0, .int .i64 0, .int .i64 0, .int .i64 0] 24)) (.cells #[.int .i64 0, .int .i64 0, .int .i64 0, .int .i64 1] 24)) hx1 (by omega)
  obtain ⟨zo_a, zo_b, lo1⟩ := rcell f_o1
  obtain ⟨zl_a, zl_b, ll1⟩ := rcell f_l1
  go_wp2_with fail
  rw [r4_at0 f_l1]
  generalize hT2 : setRow _ _ _ = w2
  obtain ⟨hx2, f_l2⟩ := fin_x (b0 _) f_l1 hT2
  clear hT2
  have f_o2 := kx hx2 (f_o1) (by omega)
  have rd_W2 := rn_W1.exc hx2 (f_l1) (by decide)
  have hB2 := xX hB1 hx2 (by omega)
  clear zl_a zl_b zo_a zo_b
  obtain ⟨zo_a, zo_b, lo2⟩ := rcell f_o2
  obtain ⟨zl_a, zl_b, ll2⟩ := rcell f_l2
  go_wp2_with fail
  rw [row4 f_o2]
  generalize hT3 : setRow _ _ _ = w3
  obtain ⟨hx3, f_o3⟩ := fin_x (b0 _) f_o2 hT3
  clear hT3
  have f_l3 := kx hx3 (f_l2) (by omega)
  have rd_W3 := rd_W2.exc hx3 (f_o2) (by decide)
  have hB3 := xX hB2 hx3 (by omega)
  clear zl_a zl_b zo_a zo_b
  obtain ⟨zl_a, zl_b, ll3⟩ := rcell f_l3
  obtain ⟨zo_a, zo_b, lo3⟩ := rcell f_o3
  have zE := (rcell (f_o3)).1
  have zL := (rcell (f_o3)).2.2
  refine bodyPost_ret (by simp [results, Tryz.results47, go_sem, zE, zL]; try rfl) rfl ?_
  rw [hres.out]
  exact ⟨rfl, hB3, rd_W3⟩
set_option maxRecDepth 100000 in
set_option maxHeartbeats 4000000 in
include hb in
theorem c_line2 (w : World) (h : Red g B c b at' e0 w) : Calls Tryz.prog 47 #[.pointer (some ⟨g, 0, none⟩), .int .i64 2] w fun e w' => e = .returned (l4V (qL b 2 at' e0).1) ∧ Exc g w w' ∧ Red g B c b (qL b 2 at' e0).2.1 (qL b 2 at' e0).2.2 w' := by
  have k1 := fun w h => c_signed g B c b hb at' e0 w h
  generalize hp1 : qS b at' e0 = p1 at k1
  obtain ⟨y1, n1, z1⟩ := p1
  simp only at k1
  have E1 := hide hp1
  clear hp1
  have k2 := fun w h => c_plain g B c b hb n1 z1 281474976710656 (by decide) w h
  generalize hp2 : qU b 281474976710656 n1 z1 = p2 at k2
  obtain ⟨y2, n2, z2⟩ := p2
  simp only at k2
  have E2 := hide hp2
  clear hp2
  have k3 := fun w h => c_signed g B c b hb n2 z2 w h
  generalize hp3 : qS b n2 z2 = p3 at k3
  obtain ⟨y3, n3, z3⟩ := p3
  simp only at k3
  have E3 := hide hp3
  clear hp3
  have hres : Hid (qL b 2 at' e0 = (⟨y3, 0, y1, y2⟩, n3, z3)) := hide (by simp [qL, E1.out, E2.out, E3.out])
  have lgw : g < w.heap.size := h.lt
  go_enter Tryz.func47, Tryz.ntmps47
  go_wp2_with fail
  refine (k1 _ (h.below (bA (bA (b0 _) (.cells #[.int .i64 0, .int .i64 0, .int .i64 0, .int .i64 0] 24)) (.cells #[.int .i64 0, .int .i64 0, .int .i64 0, .int .i64 1] 24)))).mono ?_
  rintro e w1 ⟨rfl, hx1, rn_W1⟩
  have f_o1 := kx hx1 (ka (na w #[.int .i64 0, .int .i64 0, .int .i64 0, .int .i64 0] 24) (.cells #[.int .i64 0, .int .i64 0, .int .i64 0, .int .i64 1] 24)) (by omega)
  have f_l1 := kx hx1 (na1 w (.cells #[.int .i64 0, .int .i64 0, .int .i64 0, .int .i64 0] 24) #[.int .i64 0, .int .i64 0, .int .i64 0, .int .i64 1] 24) (by omega)
  have hB1 := xX (xA (xA (x0 g w (Nat.le_of_lt h.lt)) (.cells #[.int .i64 0, .int .i64 0, .int .i64 0, .int .i64 0] 24)) (.cells #[.int .i64 0, .int .i64 0, .int .i64 0, .int .i64 1] 24)) hx1 (by omega)
  obtain ⟨zo_a, zo_b, lo1⟩ := rcell f_o1
  obtain ⟨zl_a, zl_b, ll1⟩ := rcell f_l1
  go_wp2_with fail
  rw [r4_at2 f_l1]
  generalize hT2 : setRow _ _ _ = w2
  obtain ⟨hx2, f_l2⟩ := fin_x (b0 _) f_l1 hT2
  clear hT2
  have f_o2 := kx hx2 (f_o1) (by omega)
  have rd_W2 := rn_W1.exc hx2 (f_l1) (by decide)
  have hB2 := xX hB1 hx2 (by omega)
  clear zl_a zl_b zo_a zo_b
  obtain ⟨zo_a, zo_b, lo2⟩ := rcell f_o2
  obtain ⟨zl_a, zl_b, ll2⟩ := rcell f_l2
  go_wp2_with fail
  refine (k2 _ rd_W2).mono ?_
  rintro e w3 ⟨rfl, hx3, rn_W3⟩
  have f_o3 := kx hx3 (f_o2) (by omega)
  have f_l3 := kx hx3 (f_l2) (by omega)
  have hB3 := xX hB2 hx3 (by omega)
  clear zl_a zl_b zo_a zo_b
  obtain ⟨zo_a, zo_b, lo3⟩ := rcell f_o3
  obtain ⟨zl_a, zl_b, ll3⟩ := rcell f_l3
  go_wp2_with fail
  rw [r4_at3 f_l3]
  generalize hT4 : setRow _ _ _ = w4
  obtain ⟨hx4, f_l4⟩ := fin_x (b0 _) f_l3 hT4
  clear hT4
  have f_o4 := kx hx4 (f_o3) (by omega)
  have rd_W4 := rn_W3.exc hx4 (f_l3) (by decide)
  have hB4 := xX hB3 hx4 (by omega)
  clear zl_a zl_b zo_a zo_b
  obtain ⟨zo_a, zo_b, lo4⟩ := rcell f_o4
  obtain ⟨zl_a, zl_b, ll4⟩ := rcell f_l4
  go_wp2_with fail
  refine (k3 _ rd_W4).mono ?_
  rintro e w5 ⟨rfl, hx5, rn_W5⟩
  have f_o5 := kx hx5 (f_o4) (by omega)
  have f_l5 := kx hx5 (f_l4) (by omega)
  have hB5 := xX hB4 hx5 (by omega)
  clear zl_a zl_b zo_a zo_b
  obtain ⟨zo_a, zo_b, lo5⟩ := rcell f_o5
  obtain ⟨zl_a, zl_b, ll5⟩ := rcell f_l5
  go_wp2_with fail
  rw [r4_at0 f_l5]
  generalize hT6 : setRow _ _ _ = w6
  obtain ⟨hx6, f_l6⟩ := fin_x (b0 _) f_l5 hT6
  clear hT6
  have f_o6 := kx hx6 (f_o5) (by omega)
  have rd_W6 := rn_W5.exc hx6 (f_l5) (by decide)
  have hB6 := xX hB5 hx6 (by omega)
  clear zl_a zl_b zo_a zo_b
  obtain ⟨zo_a, zo_b, lo6⟩ := rcell f_o6
  obtain ⟨zl_a, zl_b, ll6⟩ := rcell f_l6
  go_wp2_with fail
  rw [row4 f_o6]
  generalize hT7 : setRow _ _ _ = w7
  obtain ⟨hx7, f_o7⟩ := fin_x (b0 _) f_o6 hT7
  clear hT7
  have f_l7 := kx hx7 (f_l6) (by omega)
  have rd_W7 := rd_W6.exc hx7 (f_o6) (by decide)
  have hB7 := xX hB6 hx7 (by omega)
  clear zl_a zl_b zo_a zo_b
  obtain ⟨zl_a, zl_b, ll7⟩ := rcell f_l7
  obtain ⟨zo_a, zo_b, lo7⟩ := rcell f_o7
  have zE := (rcell (f_o7)).1
  have zL := (rcell (f_o7)).2.2
  refine bodyPost_ret (by simp [results, Tryz.results47, go_sem, zE, zL]; try rfl) rfl ?_
  rw [hres.out]
  exact ⟨rfl, hB7, rd_W7⟩
set_option maxRecDepth 100000 in
set_option maxHeartbeats 4000000 in
include hb in
theorem c_line3 (w : World) (h : Red g B c b at' e0 w) : Calls Tryz.prog 47 #[.pointer (some ⟨g, 0, none⟩), .int .i64 3] w fun e w' => e = .returned (l4V (qL b 3 at' e0).1) ∧ Exc g w w' ∧ Red g B c b (qL b 3 at' e0).2.1 (qL b 3 at' e0).2.2 w' := by
  have k1 := fun w h => c_plain g B c b hb at' e0 281474976710656 (by decide) w h
  generalize hp1 : qU b 281474976710656 at' e0 = p1 at k1
  obtain ⟨y1, n1, z1⟩ := p1
  simp only at k1
  have E1 := hide hp1
  clear hp1
  have k2 := fun w h => c_signed g B c b hb n1 z1 w h
  generalize hp2 : qS b n1 z1 = p2 at k2
  obtain ⟨y2, n2, z2⟩ := p2
  simp only at k2
  have E2 := hide hp2
  clear hp2
  have k3 := fun w h => c_plain g B c b hb n2 z2 281474976710656 (by decide) w h
  generalize hp3 : qU b 281474976710656 n2 z2 = p3 at k3
  obtain ⟨y3, n3, z3⟩ := p3
  simp only at k3
  have E3 := hide hp3
  clear hp3
  have k4 := fun w h => c_signed g B c b hb n3 z3 w h
  generalize hp4 : qS b n3 z3 = p4 at k4
  obtain ⟨y4, n4, z4⟩ := p4
  simp only at k4
  have E4 := hide hp4
  clear hp4
  have hres : Hid (qL b 3 at' e0 = (⟨y4, y1, y2, y3⟩, n4, z4)) := hide (by simp [qL, E1.out, E2.out, E3.out, E4.out])
  have lgw : g < w.heap.size := h.lt
  go_enter Tryz.func47, Tryz.ntmps47
  go_wp2_with fail
  refine (k1 _ (h.below (bA (bA (b0 _) (.cells #[.int .i64 0, .int .i64 0, .int .i64 0, .int .i64 0] 24)) (.cells #[.int .i64 0, .int .i64 0, .int .i64 0, .int .i64 1] 24)))).mono ?_
  rintro e w1 ⟨rfl, hx1, rn_W1⟩
  have f_o1 := kx hx1 (ka (na w #[.int .i64 0, .int .i64 0, .int .i64 0, .int .i64 0] 24) (.cells #[.int .i64 0, .int .i64 0, .int .i64 0, .int .i64 1] 24)) (by omega)
  have f_l1 := kx hx1 (na1 w (.cells #[.int .i64 0, .int .i64 0, .int .i64 0, .int .i64 0] 24) #[.int .i64 0, .int .i64 0, .int .i64 0, .int .i64 1] 24) (by omega)
  have hB1 := xX (xA (xA (x0 g w (Nat.le_of_lt h.lt)) (.cells #[.int .i64 0, .int .i64 0, .int .i64 0, .int .i64 0] 24)) (.cells #[.int .i64 0, .int .i64 0, .int .i64 0, .int .i64 1] 24)) hx1 (by omega)
  obtain ⟨zo_a, zo_b, lo1⟩ := rcell f_o1
  obtain ⟨zl_a, zl_b, ll1⟩ := rcell f_l1
  go_wp2_with fail
  rw [r4_at1 f_l1]
  generalize hT2 : setRow _ _ _ = w2
  obtain ⟨hx2, f_l2⟩ := fin_x (b0 _) f_l1 hT2
  clear hT2
  have f_o2 := kx hx2 (f_o1) (by omega)
  have rd_W2 := rn_W1.exc hx2 (f_l1) (by decide)
  have hB2 := xX hB1 hx2 (by omega)
  clear zl_a zl_b zo_a zo_b
  obtain ⟨zo_a, zo_b, lo2⟩ := rcell f_o2
  obtain ⟨zl_a, zl_b, ll2⟩ := rcell f_l2
  go_wp2_with fail
  refine (k2 _ rd_W2).mono ?_
  rintro e w3 ⟨rfl, hx3, rn_W3⟩
  have f_o3 := kx hx3 (f_o2) (by omega)
  have f_l3 := kx hx3 (f_l2) (by omega)
  have hB3 := xX hB2 hx3 (by omega)
  clear zl_a zl_b zo_a zo_b
  obtain ⟨zo_a, zo_b, lo3⟩ := rcell f_o3
  obtain ⟨zl_a, zl_b, ll3⟩ := rcell f_l3
  go_wp2_with fail
  rw [r4_at2 f_l3]
  generalize hT4 : setRow _ _ _ = w4
  obtain ⟨hx4, f_l4⟩ := fin_x (b0 _) f_l3 hT4
  clear hT4
  have f_o4 := kx hx4 (f_o3) (by omega)
  have rd_W4 := rn_W3.exc hx4 (f_l3) (by decide)
  have hB4 := xX hB3 hx4 (by omega)
  clear zl_a zl_b zo_a zo_b
  obtain ⟨zo_a, zo_b, lo4⟩ := rcell f_o4
  obtain ⟨zl_a, zl_b, ll4⟩ := rcell f_l4
  go_wp2_with fail
  refine (k3 _ rd_W4).mono ?_
  rintro e w5 ⟨rfl, hx5, rn_W5⟩
  have f_o5 := kx hx5 (f_o4) (by omega)
  have f_l5 := kx hx5 (f_l4) (by omega)
  have hB5 := xX hB4 hx5 (by omega)
  clear zl_a zl_b zo_a zo_b
  obtain ⟨zo_a, zo_b, lo5⟩ := rcell f_o5
  obtain ⟨zl_a, zl_b, ll5⟩ := rcell f_l5
  go_wp2_with fail
  rw [r4_at3 f_l5]
  generalize hT6 : setRow _ _ _ = w6
  obtain ⟨hx6, f_l6⟩ := fin_x (b0 _) f_l5 hT6
  clear hT6
  have f_o6 := kx hx6 (f_o5) (by omega)
  have rd_W6 := rn_W5.exc hx6 (f_l5) (by decide)
  have hB6 := xX hB5 hx6 (by omega)
  clear zl_a zl_b zo_a zo_b
  obtain ⟨zo_a, zo_b, lo6⟩ := rcell f_o6
  obtain ⟨zl_a, zl_b, ll6⟩ := rcell f_l6
  go_wp2_with fail
  refine (k4 _ rd_W6).mono ?_
  rintro e w7 ⟨rfl, hx7, rn_W7⟩
  have f_o7 := kx hx7 (f_o6) (by omega)
  have f_l7 := kx hx7 (f_l6) (by omega)
  have hB7 := xX hB6 hx7 (by omega)
  clear zl_a zl_b zo_a zo_b
  obtain ⟨zo_a, zo_b, lo7⟩ := rcell f_o7
  obtain ⟨zl_a, zl_b, ll7⟩ := rcell f_l7
  go_wp2_with fail
  rw [r4_at0 f_l7]
  generalize hT8 : setRow _ _ _ = w8
  obtain ⟨hx8, f_l8⟩ := fin_x (b0 _) f_l7 hT8
  clear hT8
  have f_o8 := kx hx8 (f_o7) (by omega)
  have rd_W8 := rn_W7.exc hx8 (f_l7) (by decide)
  have hB8 := xX hB7 hx8 (by omega)
  clear zl_a zl_b zo_a zo_b
  obtain ⟨zo_a, zo_b, lo8⟩ := rcell f_o8
  obtain ⟨zl_a, zl_b, ll8⟩ := rcell f_l8
  go_wp2_with fail
  rw [row4 f_o8]
  generalize hT9 : setRow _ _ _ = w9
  obtain ⟨hx9, f_o9⟩ := fin_x (b0 _) f_o8 hT9
  clear hT9
  have f_l9 := kx hx9 (f_l8) (by omega)
  have rd_W9 := rd_W8.exc hx9 (f_o8) (by decide)
  have hB9 := xX hB8 hx9 (by omega)
  clear zl_a zl_b zo_a zo_b
  obtain ⟨zl_a, zl_b, ll9⟩ := rcell f_l9
  obtain ⟨zo_a, zo_b, lo9⟩ := rcell f_o9
  have zE := (rcell (f_o9)).1
  have zL := (rcell (f_o9)).2.2
  refine bodyPost_ret (by simp [results, Tryz.results47, go_sem, zE, zL]; try rfl) rfl ?_
  rw [hres.out]
  exact ⟨rfl, hB9, rd_W9⟩
end
end Go.Proofs.YtmpfbkeamihjbaaGreat

namespace Go.Proofs.YtmpfbkeamihjbaaGreat
open Go.RowKit
attribute [local go_sem] Oper.semAt_some

theorem wrap_64 (x : Int) : IntKind.i64.wrap x = wrap64 x := by unfold wrap64; simp [IntKind.wrap, IntKind.bits, IntKind.signed]; omega
theorem qVs_step {b : List Int} {m k : Nat} (h : k < m) (a : Int) (pos : Nat) : qVs b (m - k) a pos 0 = (wrap64 (a + (qS b pos 0).1) :: (qVs b (m - (k + 1)) (wrap64 (a + (qS b pos 0).1)) (qS b pos 0).2.1 (qW (farV a (qS b pos 0).1) (qS b pos 0).2.2)).1, (qVs b (m - (k + 1)) (wrap64 (a + (qS b pos 0).1)) (qS b pos 0).2.1 (qW (farV a (qS b pos 0).1) (qS b pos 0).2.2)).2) := by
  rw [show m - k = (m - (k + 1)) + 1 by omega, qVs, if_pos rfl]
  simp only [wrap_64]
theorem far_next {a n z : Int} (ha : bkV a = true) (h : qW (farV a n) z = 0) : bkV (wrap64 (a + n)) = true := by
  have h1 : farV a n = false := by
    cases e : farV a n
    · rfl
    · rw [e] at h
      unfold qW at h
      split at h
      · cases h
      · next q => exact absurd ⟨h, rfl⟩ q
  rw [farV_bk ha] at h1
  have h2 : bkV (a + n) = true := by simpa using h1
  have := bkV_spec h2
  rw [← wrap_64, IntWalk.i64_in _ (by omega)]
  exact h2

section
variable (g : Nat) (B : Option Addr) (c : Nat) (b : List Int) (hb : Byt b) (at' : Nat) (e0 : Int)
set_option maxRecDepth 100000 in
set_option maxHeartbeats 8000000 in
include hb in
theorem c_raw (m : Nat) (hm : m ≤ 65536) (w : World) (h : Red g B c b at' e0 w) :
    Calls Tryz.prog 46 #[.pointer (some ⟨g, 0, none⟩), .int .i64 (m : Int)] w fun e w' => ∃ A' d n', e = .returned (.slice A' n' d) ∧ Hid (n' = (qVs b m 0 at' e0).1.length ∧ UpA w.heap.size A') ∧ VR w' A' d (qVs b m 0 at' e0).1 ∧ Exc g w w' ∧ Red g B c b (qVs b m 0 at' e0).2.1 (qVs b m 0 at' e0).2.2 w' := by
  have hlow := hide h.low
  generalize hq : qVs b m 0 at' e0 = q at *
  have HQ := hide hq
  clear hq
  have lgw : g < w.heap.size := h.lt
  go_enter Tryz.func46, Tryz.ntmps46
  go_wp2_with fail
  go_loopw [5, 6] (fun vo vi wr => ∃ (k pos : Nat) (e a : Int) (pre : List Int) (v0 : Value), v0 = vo ∧ vi = .int .i64 k ∧ k ≤ m ∧ Hid (pre.length = k) ∧ Hid (a = pre.getLastD 0) ∧ Hid (e = 0 → bkV a = true) ∧ OwnC .i64 2 w.heap.size wr v0 pre ∧ Hid (q = (pre ++ (qVs b (m - k) a pos e).1, (qVs b (m - k) a pos e).2)) ∧ Red g B c b pos e wr ∧ Exc g w wr) (fun _ vi _ => m - (intOf vi).toNat)
  case atStart => exact ⟨0, at', e0, 0, [], _, rfl, rfl, by omega, hide rfl, hide rfl, hide (fun _ => by decide), OwnC.nil _ _, hide (by rw [← HQ.out]; rfl), h, (x0 g w (Nat.le_of_lt h.lt))⟩
  case round =>
    obtain ⟨k, pos, e, a, pre, v0, rfl, rfl, hk, hpl, hla, ha, ho, hP, jw, hx⟩ := hrel
    by_cases hlt : k < m
    · have dk : decide (k < m) = true := decide_eq_true hlt
      by_cases he : e = 0
      · subst he
        have hbk := ha.out rfl
        have hav := bkV_spec hbk
        have HS := hide (qVs_step hlt a pos (b := b))
        have k1 := fun w h => c_signed g B c b hb pos 0 w h
        have hyb := qS_bd hb pos 0
        have HF := hide (fun h => far_next (n := (qS b pos 0).1) (z := (qS b pos 0).2.2) hbk h)
        generalize hp1 : qS b pos 0 = p1 at *
        obtain ⟨y, n1, z1⟩ := p1
        simp only at k1 hyb
        clear hp1 hbk
        obtain ⟨u, hu⟩ : ∃ u, wrap64 (a + y) = u := ⟨_, rfl⟩
        have hw1 : wrap64 (2305844108725321728 - a) = 2305844108725321728 - a := by unfold wrap64; omega
        have hw2 : wrap64 (-2305844108725321728 - a) = -2305844108725321728 - a := by unfold wrap64; omega
        have HP2 : Hid (∀ z2, qW (farV a y) z1 = z2 → q = ((pre ++ [u]) ++ (qVs b (m - (k + 1)) u n1 z2).1, (qVs b (m - (k + 1)) u n1 z2).2)) := hide (fun z2 hz => by
          rw [hP.out, HS.out]
          simp only
          rw [hu, hz]
          simp)
        have HB2 : Hid (∀ z2, qW (farV a y) z1 = z2 → z2 = 0 → bkV u = true) := hide (fun z2 hz h0 => by
          have := HF.out (by simpa [hz] using h0)
          simpa [hu] using this)
        have HU := hide hu
        clear HS hP HF ha
        have hfar : (2305844108725321728 - a < y ∧ farV a y = true) ∨ (¬ 2305844108725321728 - a < y ∧ y < -2305844108725321728 - a ∧ farV a y = true) ∨ (¬ 2305844108725321728 - a < y ∧ ¬ y < -2305844108725321728 - a ∧ farV a y = false) := by
          unfold farV
          by_cases h1 : 2305844108725321728 - a < y
          · exact .inl ⟨h1, by simp [h1]⟩
          · by_cases h2 : y < -2305844108725321728 - a
            · exact .inr (.inl ⟨h1, h2, by simp [h2]⟩)
            · exact .inr (.inr ⟨h1, h2, by simp [h1, h2]⟩)
        rcases hfar with ⟨h1, hf⟩ | ⟨h1, h2, hf⟩ | ⟨h1, h2, hf⟩
        · rw [hf] at HP2 HB2
          clear hf
          have d1 : decide (2305844108725321728 - a < y) = true := decide_eq_true h1
          have kW := fun w h => c_wrong g B c b n1 z1 true w h
          generalize hz2 : qW true z1 = z2 at *
          have HPU := hide (HP2.out z2 rfl)
          have HBU := hide (HB2.out z2 rfl)
          clear HP2 HB2 hz2
          rcases k with _ | j
          · have hpn : pre = [] := List.eq_nil_of_length_eq_zero hpl.out
            subst hpn
            obtain rfl : a = 0 := hla.out
            obtain rfl : u = y := by rw [← HU.out, Int.zero_add]; exact IntWalk.wrap64_in _ (by omega)
            simp only [Int.sub_zero] at d1 h1
            obtain ⟨zg_a, zg_b, lg0⟩ := rcell jw.hg
            go_wp2_with fail
            refine (k1 _ jw).mono ?_
            rintro e w1 ⟨rfl, hx1, rn_W1⟩
            have hB1 := xX hx hx1 (by omega)
            clear zg_a zg_b
            have ho1 : OwnC .i64 2 w.heap.size w1 v0 [] := ho.excP hx1 lgw
            go_wp2_with fail
            refine (kW _ rn_W1).mono ?_
            rintro e w2 ⟨rfl, hx2, rn_W2⟩
            have hB2 := xX hB1 hx2 (by omega)
            have ho2 : OwnC .i64 2 w.heap.size w2 _ [] := ho1.excP hx2 lgw
            have k1' : ([] : List Int).length + [u].length ≤ 1048576 := by have := hpl.out; simp; skip
            have kw : w.heap.size ≤ w2.heap.size := (hB2).size
            have kB : w.heap.size ≤ (w2.alloc (.cells #[.int .i64 u] 2)).heap.size := by simp; omega
            go_wp2_with (at_builtin; go_loud (refine wpList_pushC rfl _ _ 25 rfl 8 Tryz.underlying25 long_info (by decide) w.heap.size _ [] [u] _ _ rfl rfl (ho2.lift (bA (b0 _) _)) (CR.oneI (T := 2) _ _).inC k1' kB ?_; intro v1 w9 ho5 hb5 hs5))
            have hb6 : Below w.heap.size w2 w9 := hb5 w2 ((bA (b0 w2) _).mono kw)
            go_roundw
            case rel => exact ⟨0 + 1, n1, z2, u, [] ++ [u], v1, rfl, by go_num, by omega, hide (by simp [hpl.out]), hide (by simp), hide HBU.out, ho5, hide HPU.out, (rn_W2).lowB lgw hlow.out hb6, xG hB2 hb6 (Nat.le_trans (by simp) hs5)⟩
            case measure => simp [intOf] <;> omega
          · have hlast : pre[j]? = some a := by
              have hl := hpl.out
              have := hla.out
              rw [this, List.getLastD_eq_getLast?, List.getLast?_eq_getElem?, hl]
              simp [hl]
            have HL := hide hlast
            clear hlast
            obtain ⟨zg_a, zg_b, lg0⟩ := rcell jw.hg
            go_wp2_with fail
            refine (k1 _ jw).mono ?_
            rintro e w3 ⟨rfl, hx3, rn_W3⟩
            have hB3 := xX hx hx3 (by omega)
            clear zg_a zg_b
            have ho1 : OwnC .i64 2 w.heap.size w3 v0 pre := ho.excP hx3 lgw
            obtain ⟨A0, c0, rfl, hy0⟩ := ho1.cr
            obtain ⟨gr, orr, curr, rfl, hgr, hcr⟩ := hy0.mem (by have := hpl.out; omega)
            have qr := hcr j (by have := hpl.out; omega)
            have hcp := hy0.cap
            have htp := hy0.top
            have hpl2 : pre.length = j + 1 := hpl.out
            have hqa : pre[j]'(by omega) = a := by
              have := HL.out
              rw [List.getElem?_eq_getElem (by omega)] at this
              exact Option.some.inj this
            rw [hqa] at qr
            clear hqa hcr
            have HPL2 := hide hpl2
            have hjl : j < pre.length := by omega
            clear hpl2
            obtain ⟨zr_a, zr_b, lr0⟩ := rcell hgr
            go_wp2_with fail
            refine (kW _ rn_W3).mono ?_
            rintro e w4 ⟨rfl, hx4, rn_W4⟩
            have hB4 := xX hB3 hx4 (by omega)
            clear zr_a zr_b
            have ho2 : OwnC .i64 2 w.heap.size w4 _ pre := ho1.excP hx4 lgw
            have k1' : (pre : List Int).length + [u].length ≤ 1048576 := by have := hpl.out; simp; omega
            have kw : w.heap.size ≤ w4.heap.size := (hB4).size
            have kB : w.heap.size ≤ (w4.alloc (.cells #[.int .i64 u] 2)).heap.size := by simp; omega
            have hu' := HU.out
            go_wp2_with (at_builtin; go_loud (refine wpList_pushC rfl _ _ 25 rfl 8 Tryz.underlying25 long_info (by decide) w.heap.size _ pre [u] _ _ rfl rfl (ho2.lift (bA (b0 _) _)) (CR.oneI (T := 2) _ _).inC k1' kB ?_; intro v1 w9 ho5 hb5 hs5))
            have hb6 : Below w.heap.size w4 w9 := hb5 w4 ((bA (b0 w4) _).mono kw)
            go_roundw
            case rel => exact ⟨j + 1 + 1, n1, z2, u, pre ++ [u], v1, rfl, by go_num, by omega, hide (by simp [hpl.out]), hide (by simp), hide HBU.out, ho5, hide HPU.out, (rn_W4).lowB lgw hlow.out hb6, xG hB4 hb6 (Nat.le_trans (by simp) hs5)⟩
            case measure => simp [intOf] <;> omega
        · rw [hf] at HP2 HB2
          clear hf
          have d1 : decide (2305844108725321728 - a < y) = false := decide_eq_false h1
          have d2 : decide (y < -2305844108725321728 - a) = true := decide_eq_true h2
          have kW := fun w h => c_wrong g B c b n1 z1 true w h
          generalize hz2 : qW true z1 = z2 at *
          have HPU := hide (HP2.out z2 rfl)
          have HBU := hide (HB2.out z2 rfl)
          clear HP2 HB2 hz2
          rcases k with _ | j
          · have hpn : pre = [] := List.eq_nil_of_length_eq_zero hpl.out
            subst hpn
            obtain rfl : a = 0 := hla.out
            obtain rfl : u = y := by rw [← HU.out, Int.zero_add]; exact IntWalk.wrap64_in _ (by omega)
            simp only [Int.sub_zero] at d1 h1 d2 h2
            obtain ⟨zg_a, zg_b, lg0⟩ := rcell jw.hg
            go_wp2_with fail
            refine (k1 _ jw).mono ?_
            rintro e w5 ⟨rfl, hx5, rn_W5⟩
            have hB5 := xX hx hx5 (by omega)
            clear zg_a zg_b
            have ho1 : OwnC .i64 2 w.heap.size w5 v0 [] := ho.excP hx5 lgw
            go_wp2_with fail
            refine (kW _ rn_W5).mono ?_
            rintro e w6 ⟨rfl, hx6, rn_W6⟩
            have hB6 := xX hB5 hx6 (by omega)
            have ho2 : OwnC .i64 2 w.heap.size w6 _ [] := ho1.excP hx6 lgw
            have k1' : ([] : List Int).length + [u].length ≤ 1048576 := by have := hpl.out; simp; skip
            have kw : w.heap.size ≤ w6.heap.size := (hB6).size
            have kB : w.heap.size ≤ (w6.alloc (.cells #[.int .i64 u] 2)).heap.size := by simp; omega
            go_wp2_with (at_builtin; go_loud (refine wpList_pushC rfl _ _ 25 rfl 8 Tryz.underlying25 long_info (by decide) w.heap.size _ [] [u] _ _ rfl rfl (ho2.lift (bA (b0 _) _)) (CR.oneI (T := 2) _ _).inC k1' kB ?_; intro v1 w9 ho5 hb5 hs5))
            have hb6 : Below w.heap.size w6 w9 := hb5 w6 ((bA (b0 w6) _).mono kw)
            go_roundw
            case rel => exact ⟨0 + 1, n1, z2, u, [] ++ [u], v1, rfl, by go_num, by omega, hide (by simp [hpl.out]), hide (by simp), hide HBU.out, ho5, hide HPU.out, (rn_W6).lowB lgw hlow.out hb6, xG hB6 hb6 (Nat.le_trans (by simp) hs5)⟩
            case measure => simp [intOf] <;> omega
          · have hlast : pre[j]? = some a := by
              have hl := hpl.out
              have := hla.out
              rw [this, List.getLastD_eq_getLast?, List.getLast?_eq_getElem?, hl]
              simp [hl]
            have HL := hide hlast
            clear hlast
            obtain ⟨zg_a, zg_b, lg0⟩ := rcell jw.hg
            go_wp2_with fail
            refine (k1 _ jw).mono ?_
            rintro e w7 ⟨rfl, hx7, rn_W7⟩
            have hB7 := xX hx hx7 (by omega)
            clear zg_a zg_b
            have ho1 : OwnC .i64 2 w.heap.size w7 v0 pre := ho.excP hx7 lgw
            obtain ⟨A0, c0, rfl, hy0⟩ := ho1.cr
            obtain ⟨gr, orr, curr, rfl, hgr, hcr⟩ := hy0.mem (by have := hpl.out; omega)
            have qr := hcr j (by have := hpl.out; omega)
            have hcp := hy0.cap
            have htp := hy0.top
            have hpl2 : pre.length = j + 1 := hpl.out
            have hqa : pre[j]'(by omega) = a := by
              have := HL.out
              rw [List.getElem?_eq_getElem (by omega)] at this
              exact Option.some.inj this
            rw [hqa] at qr
            clear hqa hcr
            have HPL2 := hide hpl2
            have hjl : j < pre.length := by omega
            clear hpl2
            obtain ⟨zr_a, zr_b, lr0⟩ := rcell hgr
            go_wp2_with fail
            refine (kW _ rn_W7).mono ?_
            rintro e w8 ⟨rfl, hx8, rn_W8⟩
            have hB8 := xX hB7 hx8 (by omega)
            clear zr_a zr_b
            have ho2 : OwnC .i64 2 w.heap.size w8 _ pre := ho1.excP hx8 lgw
            have k1' : (pre : List Int).length + [u].length ≤ 1048576 := by have := hpl.out; simp; omega
            have kw : w.heap.size ≤ w8.heap.size := (hB8).size
            have kB : w.heap.size ≤ (w8.alloc (.cells #[.int .i64 u] 2)).heap.size := by simp; omega
            have hu' := HU.out
            go_wp2_with (at_builtin; go_loud (refine wpList_pushC rfl _ _ 25 rfl 8 Tryz.underlying25 long_info (by decide) w.heap.size _ pre [u] _ _ rfl rfl (ho2.lift (bA (b0 _) _)) (CR.oneI (T := 2) _ _).inC k1' kB ?_; intro v1 w9 ho5 hb5 hs5))
            have hb6 : Below w.heap.size w8 w9 := hb5 w8 ((bA (b0 w8) _).mono kw)
            go_roundw
            case rel => exact ⟨j + 1 + 1, n1, z2, u, pre ++ [u], v1, rfl, by go_num, by omega, hide (by simp [hpl.out]), hide (by simp), hide HBU.out, ho5, hide HPU.out, (rn_W8).lowB lgw hlow.out hb6, xG hB8 hb6 (Nat.le_trans (by simp) hs5)⟩
            case measure => simp [intOf] <;> omega
        · rw [hf] at HP2 HB2
          clear hf
          have d1 : decide (2305844108725321728 - a < y) = false := decide_eq_false h1
          have d2 : decide (y < -2305844108725321728 - a) = false := decide_eq_false h2
          have kW := fun w h => c_wrong g B c b n1 z1 false w h
          generalize hz2 : qW false z1 = z2 at *
          have HPU := hide (HP2.out z2 rfl)
          have HBU := hide (HB2.out z2 rfl)
          clear HP2 HB2 hz2
          rcases k with _ | j
          · have hpn : pre = [] := List.eq_nil_of_length_eq_zero hpl.out
            subst hpn
            obtain rfl : a = 0 := hla.out
            obtain rfl : u = y := by rw [← HU.out, Int.zero_add]; exact IntWalk.wrap64_in _ (by omega)
            simp only [Int.sub_zero] at d1 h1 d2 h2
            obtain ⟨zg_a, zg_b, lg0⟩ := rcell jw.hg
            go_wp2_with fail
            refine (k1 _ jw).mono ?_
            rintro e w9 ⟨rfl, hx9, rn_W9⟩
            have hB9 := xX hx hx9 (by omega)
            clear zg_a zg_b
            have ho1 : OwnC .i64 2 w.heap.size w9 v0 [] := ho.excP hx9 lgw
            go_wp2_with fail
            refine (kW _ rn_W9).mono ?_
            rintro e w10 ⟨rfl, hx10, rn_W10⟩
            have hB10 := xX hB9 hx10 (by omega)
            have ho2 : OwnC .i64 2 w.heap.size w10 _ [] := ho1.excP hx10 lgw
            have k1' : ([] : List Int).length + [u].length ≤ 1048576 := by have := hpl.out; simp; skip
            have kw : w.heap.size ≤ w10.heap.size := (hB10).size
            have kB : w.heap.size ≤ (w10.alloc (.cells #[.int .i64 u] 2)).heap.size := by simp; omega
            go_wp2_with (at_builtin; go_loud (refine wpList_pushC rfl _ _ 25 rfl 8 Tryz.underlying25 long_info (by decide) w.heap.size _ [] [u] _ _ rfl rfl (ho2.lift (bA (b0 _) _)) (CR.oneI (T := 2) _ _).inC k1' kB ?_; intro v1 w9 ho5 hb5 hs5))
            have hb6 : Below w.heap.size w10 w9 := hb5 w10 ((bA (b0 w10) _).mono kw)
            go_roundw
            case rel => exact ⟨0 + 1, n1, z2, u, [] ++ [u], v1, rfl, by go_num, by omega, hide (by simp [hpl.out]), hide (by simp), hide HBU.out, ho5, hide HPU.out, (rn_W10).lowB lgw hlow.out hb6, xG hB10 hb6 (Nat.le_trans (by simp) hs5)⟩
            case measure => simp [intOf] <;> omega
          · have hlast : pre[j]? = some a := by
              have hl := hpl.out
              have := hla.out
              rw [this, List.getLastD_eq_getLast?, List.getLast?_eq_getElem?, hl]
              simp [hl]
            have HL := hide hlast
            clear hlast
            obtain rfl : u = a + y := by rw [← HU.out]; exact IntWalk.wrap64_in _ (by omega)
            obtain ⟨zg_a, zg_b, lg0⟩ := rcell jw.hg
            go_wp2_with fail
            refine (k1 _ jw).mono ?_
            rintro e w11 ⟨rfl, hx11, rn_W11⟩
            have hB11 := xX hx hx11 (by omega)
            clear zg_a zg_b
            have ho1 : OwnC .i64 2 w.heap.size w11 v0 pre := ho.excP hx11 lgw
            obtain ⟨A0, c0, rfl, hy0⟩ := ho1.cr
            obtain ⟨gr, orr, curr, rfl, hgr, hcr⟩ := hy0.mem (by have := hpl.out; omega)
            have qr := hcr j (by have := hpl.out; omega)
            have hcp := hy0.cap
            have htp := hy0.top
            have hpl2 : pre.length = j + 1 := hpl.out
            have hqa : pre[j]'(by omega) = a := by
              have := HL.out
              rw [List.getElem?_eq_getElem (by omega)] at this
              exact Option.some.inj this
            rw [hqa] at qr
            clear hqa hcr
            have HPL2 := hide hpl2
            have hjl : j < pre.length := by omega
            clear hpl2
            obtain ⟨zr_a, zr_b, lr0⟩ := rcell hgr
            go_wp2_with fail
            refine (kW _ rn_W11).mono ?_
            rintro e w12 ⟨rfl, hx12, rn_W12⟩
            have hB12 := xX hB11 hx12 (by omega)
            clear zr_a zr_b
            have ho2 : OwnC .i64 2 w.heap.size w12 _ pre := ho1.excP hx12 lgw
            have k1' : (pre : List Int).length + [(a + y)].length ≤ 1048576 := by have := hpl.out; simp; omega
            have kw : w.heap.size ≤ w12.heap.size := (hB12).size
            have kB : w.heap.size ≤ (w12.alloc (.cells #[.int .i64 (a + y)] 2)).heap.size := by simp; omega
            go_wp2_with (at_builtin; go_loud (refine wpList_pushC rfl _ _ 25 rfl 8 Tryz.underlying25 long_info (by decide) w.heap.size _ pre [(a + y)] _ _ rfl rfl (ho2.lift (bA (b0 _) _)) (CR.oneI (T := 2) _ _).inC k1' kB ?_; intro v1 w9 ho5 hb5 hs5))
            have hb6 : Below w.heap.size w12 w9 := hb5 w12 ((bA (b0 w12) _).mono kw)
            go_roundw
            case rel => exact ⟨j + 1 + 1, n1, z2, (a + y), pre ++ [(a + y)], v1, rfl, by go_num, by omega, hide (by simp [hpl.out]), hide (by simp), hide HBU.out, ho5, hide HPU.out, (rn_W12).lowB lgw hlow.out hb6, xG hB12 hb6 (Nat.le_trans (by simp) hs5)⟩
            case measure => simp [intOf] <;> omega
      · have d0 : (e == 0) = false := by simp [he]
        have hres : Hid (q = (pre, pos, e)) := hide (by rw [hP.out, qVs_bad he]; simp)
        obtain ⟨A0, c0, rfl, hy0⟩ := ho.cr
        have HY := hide hy0
        have hup := hide ho.up
        have HRR := hide jw
        clear he hP
        obtain ⟨zg_a, zg_b, lg0⟩ := rcell jw.hg
        go_wp2
        go_ret
        exact ⟨_, _, _, rfl, hide ⟨by rw [hres.out], hup.out⟩, by rw [hres.out]; exact HY.out, hx, by rw [hres.out]; exact HRR.out⟩
    · obtain rfl : k = m := by omega
      have hres : Hid (q = (pre, pos, e)) := hide (by rw [hP.out, Nat.sub_self, qVs]; simp)
      obtain ⟨A0, c0, rfl, hy0⟩ := ho.cr
      have HY := hide hy0
      have hup := hide ho.up
      have HRR := hide jw
      clear hP
      go_wp2
      go_ret
      exact ⟨_, _, _, rfl, hide ⟨by rw [hres.out], hup.out⟩, by rw [hres.out]; exact HY.out, hx, by rw [hres.out]; exact HRR.out⟩
end
end Go.Proofs.YtmpfbkeamihjbaaGreat

namespace Go.Proofs.YtmpfbkeamihjbaaGreat
open Go.RowKit
attribute [local go_sem] Oper.semAt_some

theorem qR1_n (b : List Int) (from' : Int) (at' : Nat) (e : Int) : 0 ≤ (qR1 b from' at' e).1.n ∧ (qR1 b from' at' e).1.n ≤ 256 := by
  unfold qR1
  simp only
  have := qU_le b 256 (qU b 281474976710656 at' e).2.1 (qU b 281474976710656 at' e).2.2
  omega
theorem qRs_n (b : List Int) : ∀ (m : Nat) (from' : Int) (at' : Nat) (e : Int), (∀ r ∈ (qRs b m from' at' e).1, 0 ≤ r.n ∧ r.n ≤ 256) ∧ (qRs b m from' at' e).1.length ≤ m
  | 0, _, _, _ => ⟨fun r h => (by cases h), by simp [qRs]⟩
  | m + 1, from', at', e => by
    rw [qRs]
    split
    · simp only
      have ih := qRs_n b m (rlast (qR1 b from' at' e).1) (qR1 b from' at' e).2.1 (qR1 b from' at' e).2.2
      refine ⟨fun r hr => ?_, by simp; exact ih.2⟩
      rcases List.mem_cons.1 hr with rfl | hr
      · exact qR1_n b from' at' e
      · exact ih.1 r hr
    · exact ⟨fun r h => (by cases h), by simp⟩
theorem qRs_step {b : List Int} {m k : Nat} (h : k < m) (f : Int) (pos : Nat) : qRs b (m - k) f pos 0 = ((qR1 b f pos 0).1 :: (qRs b (m - (k + 1)) (rlast (qR1 b f pos 0).1) (qR1 b f pos 0).2.1 (qR1 b f pos 0).2.2).1, (qRs b (m - (k + 1)) (rlast (qR1 b f pos 0).1) (qR1 b f pos 0).2.1 (qR1 b f pos 0).2.2).2) := by
  rw [show m - k = (m - (k + 1)) + 1 by omega, qRs, if_pos rfl]
theorem qR1_low {b : List Int} {f : Int} {pos F n1 C n2 : Nat} {z1 z2 : Int} (h1 : qU b 281474976710656 pos 0 = (F, n1, z1)) (h2 : qU b 256 n1 z1 = (C, n2, z2)) (hc : ¬ 1 < C) (L : Int) (hL : rlast ⟨f + (F : Int), 0, (C : Int)⟩ = L) (z3 : Int) (h3 : qW (decide (C = 0)) z2 = z3) :
    qR1 b f pos 0 = (⟨f + (F : Int), 0, (C : Int)⟩, n2, qW (decide (281474976710656 < L)) z3) := by
  unfold qR1
  simp only [h1, h2, h3, hc, if_false]
  rw [← hL]
  rfl
theorem qR1_high {b : List Int} {f : Int} {pos F n1 C n2 S n3 : Nat} {z1 z2 z4 : Int} (h1 : qU b 281474976710656 pos 0 = (F, n1, z1)) (h2 : qU b 256 n1 z1 = (C, n2, z2)) (hc : 1 < C) (z3 : Int) (h3 : qW (decide (C = 0)) z2 = z3) (h4 : qU b 281474976710656 n2 z3 = (S, n3, z4)) (L : Int) (hL : rlast ⟨f + (F : Int), (S : Int), (C : Int)⟩ = L) :
    qR1 b f pos 0 = (⟨f + (F : Int), (S : Int), (C : Int)⟩, n3, qW (decide (281474976710656 < L)) z4) := by
  unfold qR1
  simp only [h1, h2, h3, hc, if_true, h4, hL]
theorem qW_zero {is : Bool} {e : Int} (h : qW is e = 0) : is = false := by
  cases is
  · rfl
  · unfold qW at h
    split at h
    · cases h
    · next q => exact absurd ⟨h, rfl⟩ q

section
variable (g : Nat) (B : Option Addr) (c : Nat) (b : List Int) (hb : Byt b) (at' : Nat) (e0 : Int)
set_option maxRecDepth 100000 in
set_option maxHeartbeats 16000000 in
include hb in
theorem c_runs (w : World) (h : Red g B c b at' e0 w) :
    Calls Tryz.prog 45 #[.pointer (some ⟨g, 0, none⟩)] w fun e w' => ∃ A' d n', e = .returned (.slice A' n' d) ∧ Hid (n' = (qRuns b at' e0).1.length ∧ UpA w.heap.size A') ∧ RR w' A' d (qRuns b at' e0).1 ∧ Exc g w w' ∧ Red g B c b (qRuns b at' e0).2.1 (qRuns b at' e0).2.2 w' := by
  have hlow := hide h.low
  have k0 := fun w h => c_plain g B c b hb at' e0 256 (by decide) w h
  have hM := qU_le b 256 at' e0
  unfold qRuns
  simp only
  generalize hp0 : qU b 256 at' e0 = p0 at *
  obtain ⟨M, n0, z0⟩ := p0
  simp only at k0 hM ⊢
  clear hp0
  have hMz : (M = 0 ∧ qW (decide (M = 0)) z0 = qW true z0) ∨ (¬ M = 0 ∧ qW (decide (M = 0)) z0 = qW false z0) := by
    by_cases hm : M = 0
    · exact .inl ⟨hm, by rw [decide_eq_true hm]⟩
    · exact .inr ⟨hm, by rw [decide_eq_false hm]⟩
  rcases hMz with ⟨hm, hz⟩ | ⟨hm, hz⟩
  · rw [hz]
    clear hz
    subst hm
    have kW := fun w h => c_wrong g B c b n0 z0 true w h
    generalize qW true z0 = z1 at *
    generalize hq : qRs b 0 0 n0 z1 = q at *
    have HQ := hide hq
    clear hq
    have lgw : g < w.heap.size := h.lt
    go_enter Tryz.func45, Tryz.ntmps45
    go_wp2_with fail
    refine (k0 _ h).mono ?_
    rintro e w1 ⟨rfl, hx1, rn_W1⟩
    have hB1 := xX (x0 g w (Nat.le_of_lt h.lt)) hx1 (by omega)
    go_wp2_with fail
    refine (kW _ rn_W1).mono ?_
    rintro e w2 ⟨rfl, hx2, rn_W2⟩
    have hB2 := xX hB1 hx2 (by omega)
    have fW := rn_W2
    have hx0 := hB2
    have hs0 := hx0.size
    clear kW k0
    go_wp2_with fail
    go_loopw [4, 5, 6] (fun vo vf vi wr => ∃ (k pos : Nat) (e f : Int) (pre : List Rn) (v0 : Value), v0 = vo ∧ vf = .int .i64 f ∧ vi = .int .i64 k ∧ k ≤ 0 ∧ Hid (pre.length = k) ∧ Hid (0 ≤ f ∧ (e = 0 → f ≤ 281474976710656)) ∧ OwnR w.heap.size wr v0 pre ∧ Hid (q = (pre ++ (qRs b (0 - k) f pos e).1, (qRs b (0 - k) f pos e).2)) ∧ Red g B c b pos e wr ∧ Exc g w wr) (fun _ _ vi _ => 0 - (intOf vi).toNat)
    case atStart => exact ⟨0, n0, z1, 0, [], _, rfl, rfl, rfl, by omega, hide rfl, hide ⟨by decide, fun _ => by decide⟩, OwnR.nil _ _, hide (by rw [← HQ.out]; rfl), fW, hx0⟩
    case round =>
      obtain ⟨k, pos, e, f, pre, v0, rfl, rfl, rfl, hk, hpl, hfb, ho, hP, jw, hx⟩ := hrel
      obtain rfl : k = 0 := by omega
      have hres : Hid (q = (pre, pos, e)) := hide (by rw [hP.out, Nat.sub_self, qRs]; simp)
      obtain ⟨A0, c0, rfl, hr0⟩ := ho.rr
      have hup := hide ho.up
      have cR := fun w hR => ref07_Right A0 c0 pre w hR
      have kF := fun w h => c_wrong g B c b pos e (!rnB pre) w h
      generalize hrb : rnB pre = rb at *
      have HRB := hide hrb
      clear hrb hP
      obtain ⟨zg_a, zg_b, lg0⟩ := rcell jw.hg
      go_wp2_with fail
      refine (cR _ hr0).mono ?_
      rintro e' wR ⟨rfl, bR⟩
      have jw2 := jw.below bR
      have hr2 := hr0.below bR
      have hx2 := xB hx bR
      go_wp2_with fail
      refine (kF _ jw2).mono ?_
      rintro e w3 ⟨rfl, hx3, rn_W3⟩
      have rd_l3 := (hr2).we hx3 jw2
      have hB3 := xX hx2 hx3 (by omega)
      go_wp2
      go_ret
      exact ⟨_, _, _, rfl, hide ⟨by rw [hres.out], hup.out⟩, by rw [hres.out]; exact rd_l3, hB3, by rw [hres.out, HRB.out]; exact rn_W3⟩
  · rw [hz]
    clear hz
    have dM : ((M : Int) == 0) = false := by simp [hm]
    have kW := fun w h => c_wrong g B c b n0 z0 false w h
    generalize qW false z0 = z1 at *
    generalize hq : qRs b M 0 n0 z1 = q at *
    have HQ := hide hq
    clear hq
    have lgw : g < w.heap.size := h.lt
    go_enter Tryz.func45, Tryz.ntmps45
    go_wp2_with fail
    refine (k0 _ h).mono ?_
    rintro e w1 ⟨rfl, hx1, rn_W1⟩
    have hB1 := xX (x0 g w (Nat.le_of_lt h.lt)) hx1 (by omega)
    go_wp2_with fail
    refine (kW _ rn_W1).mono ?_
    rintro e w2 ⟨rfl, hx2, rn_W2⟩
    have hB2 := xX hB1 hx2 (by omega)
    have fW := rn_W2
    have hx0 := hB2
    have hs0 := hx0.size
    clear kW k0
    go_wp2_with fail
    go_loopw [4, 5, 6] (fun vo vf vi wr => ∃ (k pos : Nat) (e f : Int) (pre : List Rn) (v0 : Value), v0 = vo ∧ vf = .int .i64 f ∧ vi = .int .i64 k ∧ k ≤ M ∧ Hid (pre.length = k) ∧ Hid (0 ≤ f ∧ (e = 0 → f ≤ 281474976710656)) ∧ OwnR w.heap.size wr v0 pre ∧ Hid (q = (pre ++ (qRs b (M - k) f pos e).1, (qRs b (M - k) f pos e).2)) ∧ Red g B c b pos e wr ∧ Exc g w wr) (fun _ _ vi _ => M - (intOf vi).toNat)
    case atStart => exact ⟨0, n0, z1, 0, [], _, rfl, rfl, rfl, by omega, hide rfl, hide ⟨by decide, fun _ => by decide⟩, OwnR.nil _ _, hide (by rw [← HQ.out]; rfl), fW, hx0⟩
    case round =>
      obtain ⟨k, pos, e, f, pre, v0, rfl, rfl, rfl, hk, hpl, hfb, ho, hP, jw, hx⟩ := hrel
      by_cases hlt : k < M
      · have dk : decide (k < M) = true := decide_eq_true hlt
        by_cases he : e = 0
        · subst he
          obtain ⟨hf0, hf1⟩ := hfb.out
          have hf1 := hf1 rfl
          have HS := hide (qRs_step hlt f pos (b := b))
          have k1 := fun w h => c_plain g B c b hb pos 0 281474976710656 (by decide) w h
          have hF := qU_le b 281474976710656 pos 0
          generalize hp1 : qU b 281474976710656 pos 0 = p1 at *
          obtain ⟨F, n1, z1'⟩ := p1
          simp only at k1 hF
          have k2 := fun w h => c_plain g B c b hb n1 z1' 256 (by decide) w h
          have hC := qU_le b 256 n1 z1'
          generalize hp2 : qU b 256 n1 z1' = p2 at *
          obtain ⟨C, n2, z2⟩ := p2
          simp only at k2 hC
          have HP1 := hide hp1
          have HP2 := hide hp2
          clear hp1 hp2
          have hwf : wrap64 (f + (F : Int)) = f + (F : Int) := by unfold wrap64; omega
          rcases (show C = 0 ∨ C = 1 ∨ 1 < C by omega) with hc | hc | hc
          · obtain rfl := hc
            have kW1 := fun w h => c_wrong g B c b n2 z2 true w h
            obtain ⟨z3, hz3⟩ : ∃ z3, qW true z2 = z3 := ⟨_, rfl⟩
            rw [hz3] at kW1
            have HZ3 : Hid (qW (decide (0 = 0)) z2 = z3) := hide (by rw [← hz3]; rfl)
            clear hz3
            have kL := fun w => ref12_Last (f + (F : Int)) 0 0 ⟨by omega, by omega⟩ ⟨by omega, by omega⟩ ⟨by omega, by omega⟩ w
            have hLb : 0 ≤ rlast ⟨f + (F : Int), 0, 0⟩ := by
              unfold rlast
              simp only; omega
            obtain ⟨L, hrl⟩ : ∃ L, rlast ⟨f + (F : Int), 0, 0⟩ = L := ⟨_, rfl⟩
            rw [hrl] at kL hLb
            have hR1 : Hid (qR1 b f pos 0 = (⟨f + (F : Int), 0, 0⟩, n2, qW (decide (281474976710656 < L)) z3)) := hide (qR1_low HP1.out HP2.out (by omega) L hrl z3 HZ3.out)
            have hrl2 := hide hrl
            clear hrl
            have kW2 := fun w h => c_wrong g B c b n2 z3 (decide (281474976710656 < L)) w h
            obtain ⟨z5, hz5⟩ : ∃ z5, qW (decide (281474976710656 < L)) z3 = z5 := ⟨_, rfl⟩
            rw [hz5] at kW2
            have HPU : Hid (q = ((pre ++ [⟨f + (F : Int), 0, 0⟩]) ++ (qRs b (M - (k + 1)) L n2 z5).1, (qRs b (M - (k + 1)) L n2 z5).2)) := hide (by
              rw [hP.out, HS.out, hR1.out]
              simp only
              rw [hrl2.out, hz5]
              simp)
            have HFB : Hid (0 ≤ L ∧ (z5 = 0 → L ≤ 281474976710656)) := hide ⟨hLb, fun h => by
              rw [← hz5] at h
              have := of_decide_eq_false (qW_zero h)
              omega⟩
            clear hz5 hrl2 hR1 HS hP
            obtain ⟨zg_a, zg_b, lg0⟩ := rcell jw.hg
            go_wp2_with fail
            refine (k1 _ jw).mono ?_
            rintro e w3 ⟨rfl, hx3, rn_W3⟩
            have hB3 := xX (x0 g wr (Nat.le_of_lt jw.lt)) hx3 (by omega)
            clear zg_a zg_b
            have lsz := (hB3).size
            have lgr := jw.lt
            go_wp2_with fail
            refine (k2 _ (rn_W3.below (bA (b0 _) (.cells #[.int .i64 (f + (F : Int)), .int .i64 0, .int .i64 0] 46)))).mono ?_
            rintro e w4 ⟨rfl, hx4, rn_W4⟩
            have f_x4 := kx hx4 (na w3 #[.int .i64 (f + (F : Int)), .int .i64 0, .int .i64 0] 46) (by omega)
            have hB4 := xX (xA hB3 (.cells #[.int .i64 (f + (F : Int)), .int .i64 0, .int .i64 0] 46)) hx4 (by omega)
            obtain ⟨zx_a, zx_b, lx4⟩ := rcell f_x4
            go_wp2_with fail
            rw [r3_at2' f_x4]
            generalize hT5 : setRow _ _ _ = w5
            obtain ⟨hx5, f_x5⟩ := fin_x (b0 _) f_x4 hT5
            clear hT5
            have rd_W5 := rn_W4.exc hx5 (f_x4) (by decide)
            have hB5 := xX hB4 hx5 (by omega)
            clear zx_a zx_b
            obtain ⟨zx_a, zx_b, lx5⟩ := rcell f_x5
            refine (kW1 _ rd_W5).mono ?_
            rintro e w6 ⟨rfl, hx6, rn_W6⟩
            have f_x6 := kx hx6 (f_x5) (by omega)
            have hB6 := xX hB5 hx6 (by omega)
            clear zx_a zx_b
            obtain ⟨zx_a, zx_b, lx6⟩ := rcell f_x6
            go_wp2_with fail
            refine (kL _).mono ?_
            rintro e' wq ⟨rfl, bq⟩
            have jwq := (rn_W6).below bq
            have fxq := kp bq (f_x6)
            have hxq := xB hB6 bq
            obtain ⟨zx_a, zx_b, lx7⟩ := rcell fxq
            go_wp2_with fail
            refine (kW2 _ jwq).mono ?_
            rintro e w8 ⟨rfl, hx8, rn_W8⟩
            have f_x8 := kx hx8 (fxq) (by omega)
            have hB8 := xX hxq hx8 (by omega)
            clear zx_a zx_b
            obtain ⟨zx_a, zx_b, lx8⟩ := rcell f_x8
            have ho2 : OwnR w.heap.size w8 v0 pre := ho.excP hB8 lgw
            have k1' : pre.length + [(⟨f + (F : Int), 0, 0⟩ : Rn)].length ≤ 4096 := by have := hpl.out; simp; omega
            have kw : w.heap.size ≤ w8.heap.size := Nat.le_trans hx.size (hB8).size
            have kB : w.heap.size ≤ (w8.alloc (.cells #[.int .i64 (f + (F : Int)), .int .i64 0, .int .i64 0] 46)).heap.size := by simp; omega
            go_wp2_with (at_builtin; go_loud (refine wpList_pushR rfl _ _ rfl w.heap.size _ pre [⟨f + (F : Int), 0, 0⟩] _ _ rfl rfl (ho2.lift (bA (b0 _) _)) (RR.oneI _ ⟨f + (F : Int), 0, 0⟩).inR k1' kB ?_; intro v1 w9 ho5 hb5 hs5))
            have hb6 : Below w.heap.size w8 w9 := hb5 w8 ((bA (b0 w8) _).mono kw)
            go_roundw
            case rel => exact ⟨k + 1, n2, z5, L, pre ++ [⟨f + (F : Int), 0, 0⟩], v1, rfl, rfl, by go_num, by omega, hide (by simp [hpl.out]), hide HFB.out, ho5, hide HPU.out, (rn_W8).lowB lgw hlow.out hb6, xG (hx.trans hB8) hb6 (Nat.le_trans (by simp) hs5)⟩
            case measure => simp [intOf] <;> omega
          · obtain rfl := hc
            have kW1 := fun w h => c_wrong g B c b n2 z2 false w h
            obtain ⟨z3, hz3⟩ : ∃ z3, qW false z2 = z3 := ⟨_, rfl⟩
            rw [hz3] at kW1
            have HZ3 : Hid (qW (decide (1 = 0)) z2 = z3) := hide (by rw [← hz3]; rw [decide_eq_false (by omega)])
            clear hz3
            have kL := fun w => ref12_Last (f + (F : Int)) 0 1 ⟨by omega, by omega⟩ ⟨by omega, by omega⟩ ⟨by omega, by omega⟩ w
            have hLb : 0 ≤ rlast ⟨f + (F : Int), 0, 1⟩ := by
              unfold rlast
              simp only; omega
            obtain ⟨L, hrl⟩ : ∃ L, rlast ⟨f + (F : Int), 0, 1⟩ = L := ⟨_, rfl⟩
            rw [hrl] at kL hLb
            have hR1 : Hid (qR1 b f pos 0 = (⟨f + (F : Int), 0, 1⟩, n2, qW (decide (281474976710656 < L)) z3)) := hide (qR1_low HP1.out HP2.out (by omega) L hrl z3 HZ3.out)
            have hrl2 := hide hrl
            clear hrl
            have kW2 := fun w h => c_wrong g B c b n2 z3 (decide (281474976710656 < L)) w h
            obtain ⟨z5, hz5⟩ : ∃ z5, qW (decide (281474976710656 < L)) z3 = z5 := ⟨_, rfl⟩
            rw [hz5] at kW2
            have HPU : Hid (q = ((pre ++ [⟨f + (F : Int), 0, 1⟩]) ++ (qRs b (M - (k + 1)) L n2 z5).1, (qRs b (M - (k + 1)) L n2 z5).2)) := hide (by
              rw [hP.out, HS.out, hR1.out]
              simp only
              rw [hrl2.out, hz5]
              simp)
            have HFB : Hid (0 ≤ L ∧ (z5 = 0 → L ≤ 281474976710656)) := hide ⟨hLb, fun h => by
              rw [← hz5] at h
              have := of_decide_eq_false (qW_zero h)
              omega⟩
            clear hz5 hrl2 hR1 HS hP
            obtain ⟨zg_a, zg_b, lg0⟩ := rcell jw.hg
            go_wp2_with fail
            refine (k1 _ jw).mono ?_
            rintro e w9 ⟨rfl, hx9, rn_W9⟩
            have hB9 := xX (x0 g wr (Nat.le_of_lt jw.lt)) hx9 (by omega)
            clear zg_a zg_b
            have lsz := (hB9).size
            have lgr := jw.lt
            go_wp2_with fail
            refine (k2 _ (rn_W9.below (bA (b0 _) (.cells #[.int .i64 (f + (F : Int)), .int .i64 0, .int .i64 0] 46)))).mono ?_
            rintro e w10 ⟨rfl, hx10, rn_W10⟩
            have f_x10 := kx hx10 (na w9 #[.int .i64 (f + (F : Int)), .int .i64 0, .int .i64 0] 46) (by omega)
            have hB10 := xX (xA hB9 (.cells #[.int .i64 (f + (F : Int)), .int .i64 0, .int .i64 0] 46)) hx10 (by omega)
            obtain ⟨zx_a, zx_b, lx10⟩ := rcell f_x10
            go_wp2_with fail
            rw [r3_at2' f_x10]
            generalize hT11 : setRow _ _ _ = w11
            obtain ⟨hx11, f_x11⟩ := fin_x (b0 _) f_x10 hT11
            clear hT11
            have rd_W11 := rn_W10.exc hx11 (f_x10) (by decide)
            have hB11 := xX hB10 hx11 (by omega)
            clear zx_a zx_b
            obtain ⟨zx_a, zx_b, lx11⟩ := rcell f_x11
            refine (kW1 _ rd_W11).mono ?_
            rintro e w12 ⟨rfl, hx12, rn_W12⟩
            have f_x12 := kx hx12 (f_x11) (by omega)
            have hB12 := xX hB11 hx12 (by omega)
            clear zx_a zx_b
            obtain ⟨zx_a, zx_b, lx12⟩ := rcell f_x12
            go_wp2_with fail
            refine (kL _).mono ?_
            rintro e' wq ⟨rfl, bq⟩
            have jwq := (rn_W12).below bq
            have fxq := kp bq (f_x12)
            have hxq := xB hB12 bq
            obtain ⟨zx_a, zx_b, lx13⟩ := rcell fxq
            go_wp2_with fail
            refine (kW2 _ jwq).mono ?_
            rintro e w14 ⟨rfl, hx14, rn_W14⟩
            have f_x14 := kx hx14 (fxq) (by omega)
            have hB14 := xX hxq hx14 (by omega)
            clear zx_a zx_b
            obtain ⟨zx_a, zx_b, lx14⟩ := rcell f_x14
            have ho2 : OwnR w.heap.size w14 v0 pre := ho.excP hB14 lgw
            have k1' : pre.length + [(⟨f + (F : Int), 0, 1⟩ : Rn)].length ≤ 4096 := by have := hpl.out; simp; omega
            have kw : w.heap.size ≤ w14.heap.size := Nat.le_trans hx.size (hB14).size
            have kB : w.heap.size ≤ (w14.alloc (.cells #[.int .i64 (f + (F : Int)), .int .i64 0, .int .i64 1] 46)).heap.size := by simp; omega
            go_wp2_with (at_builtin; go_loud (refine wpList_pushR rfl _ _ rfl w.heap.size _ pre [⟨f + (F : Int), 0, 1⟩] _ _ rfl rfl (ho2.lift (bA (b0 _) _)) (RR.oneI _ ⟨f + (F : Int), 0, 1⟩).inR k1' kB ?_; intro v1 w9 ho5 hb5 hs5))
            have hb6 : Below w.heap.size w14 w9 := hb5 w14 ((bA (b0 w14) _).mono kw)
            go_roundw
            case rel => exact ⟨k + 1, n2, z5, L, pre ++ [⟨f + (F : Int), 0, 1⟩], v1, rfl, rfl, by go_num, by omega, hide (by simp [hpl.out]), hide HFB.out, ho5, hide HPU.out, (rn_W14).lowB lgw hlow.out hb6, xG (hx.trans hB14) hb6 (Nat.le_trans (by simp) hs5)⟩
            case measure => simp [intOf] <;> omega
          · have dC0 : ((C : Int) == 0) = false := by simp; omega
            have dC1 : decide (1 < C) = true := decide_eq_true hc
            have kW1 := fun w h => c_wrong g B c b n2 z2 false w h
            obtain ⟨z3, hz3⟩ : ∃ z3, qW false z2 = z3 := ⟨_, rfl⟩
            rw [hz3] at kW1
            have HZ3 : Hid (qW (decide (C = 0)) z2 = z3) := hide (by rw [← hz3]; rw [decide_eq_false (by omega)])
            clear hz3
            have k3 := fun w h => c_plain g B c b hb n2 z3 281474976710656 (by decide) w h
            have hS := qU_le b 281474976710656 n2 z3
            generalize hp3 : qU b 281474976710656 n2 z3 = p3 at *
            obtain ⟨S, n3, z4⟩ := p3
            simp only at k3 hS
            have HP3 := hide hp3
            clear hp3
            have kL := fun w => ref12_Last (f + (F : Int)) (S : Int) (C : Int) ⟨by omega, by omega⟩ ⟨by omega, by omega⟩ ⟨by omega, by omega⟩ w
            have hLb : 0 ≤ rlast ⟨f + (F : Int), (S : Int), (C : Int)⟩ := by
              unfold rlast
              have := Int.mul_nonneg (show 0 ≤ (C : Int) - 1 by omega) (show 0 ≤ (S : Int) by omega)
              simp only; omega
            obtain ⟨L, hrl⟩ : ∃ L, rlast ⟨f + (F : Int), (S : Int), (C : Int)⟩ = L := ⟨_, rfl⟩
            rw [hrl] at kL hLb
            have hR1 : Hid (qR1 b f pos 0 = (⟨f + (F : Int), (S : Int), (C : Int)⟩, n3, qW (decide (281474976710656 < L)) z4)) := hide (qR1_high HP1.out HP2.out hc z3 HZ3.out HP3.out L hrl)
            have hrl2 := hide hrl
            clear hrl
            have kW2 := fun w h => c_wrong g B c b n3 z4 (decide (281474976710656 < L)) w h
            obtain ⟨z5, hz5⟩ : ∃ z5, qW (decide (281474976710656 < L)) z4 = z5 := ⟨_, rfl⟩
            rw [hz5] at kW2
            have HPU : Hid (q = ((pre ++ [⟨f + (F : Int), (S : Int), (C : Int)⟩]) ++ (qRs b (M - (k + 1)) L n3 z5).1, (qRs b (M - (k + 1)) L n3 z5).2)) := hide (by
              rw [hP.out, HS.out, hR1.out]
              simp only
              rw [hrl2.out, hz5]
              simp)
            have HFB : Hid (0 ≤ L ∧ (z5 = 0 → L ≤ 281474976710656)) := hide ⟨hLb, fun h => by
              rw [← hz5] at h
              have := of_decide_eq_false (qW_zero h)
              omega⟩
            clear hz5 hrl2 hR1 HS hP
            obtain ⟨zg_a, zg_b, lg0⟩ := rcell jw.hg
            go_wp2_with fail
            refine (k1 _ jw).mono ?_
            rintro e w15 ⟨rfl, hx15, rn_W15⟩
            have hB15 := xX (x0 g wr (Nat.le_of_lt jw.lt)) hx15 (by omega)
            clear zg_a zg_b
            have lsz := (hB15).size
            have lgr := jw.lt
            go_wp2_with fail
            refine (k2 _ (rn_W15.below (bA (b0 _) (.cells #[.int .i64 (f + (F : Int)), .int .i64 0, .int .i64 0] 46)))).mono ?_
            rintro e w16 ⟨rfl, hx16, rn_W16⟩
            have f_x16 := kx hx16 (na w15 #[.int .i64 (f + (F : Int)), .int .i64 0, .int .i64 0] 46) (by omega)
            have hB16 := xX (xA hB15 (.cells #[.int .i64 (f + (F : Int)), .int .i64 0, .int .i64 0] 46)) hx16 (by omega)
            obtain ⟨zx_a, zx_b, lx16⟩ := rcell f_x16
            go_wp2_with fail
            rw [r3_at2' f_x16]
            generalize hT17 : setRow _ _ _ = w17
            obtain ⟨hx17, f_x17⟩ := fin_x (b0 _) f_x16 hT17
            clear hT17
            have rd_W17 := rn_W16.exc hx17 (f_x16) (by decide)
            have hB17 := xX hB16 hx17 (by omega)
            clear zx_a zx_b
            obtain ⟨zx_a, zx_b, lx17⟩ := rcell f_x17
            refine (kW1 _ rd_W17).mono ?_
            rintro e w18 ⟨rfl, hx18, rn_W18⟩
            have f_x18 := kx hx18 (f_x17) (by omega)
            have hB18 := xX hB17 hx18 (by omega)
            clear zx_a zx_b
            obtain ⟨zx_a, zx_b, lx18⟩ := rcell f_x18
            go_wp2_with fail
            refine (k3 _ rn_W18).mono ?_
            rintro e w19 ⟨rfl, hx19, rn_W19⟩
            have f_x19 := kx hx19 (f_x18) (by omega)
            have hB19 := xX hB18 hx19 (by omega)
            clear zx_a zx_b
            obtain ⟨zx_a, zx_b, lx19⟩ := rcell f_x19
            go_wp2_with fail
            rw [r3_at1' f_x19]
            generalize hT20 : setRow _ _ _ = w20
            obtain ⟨hx20, f_x20⟩ := fin_x (b0 _) f_x19 hT20
            clear hT20
            have rd_W20 := rn_W19.exc hx20 (f_x19) (by decide)
            have hB20 := xX hB19 hx20 (by omega)
            clear zx_a zx_b
            obtain ⟨zx_a, zx_b, lx20⟩ := rcell f_x20
            refine (kL _).mono ?_
            rintro e' wq ⟨rfl, bq⟩
            have jwq := (rd_W20).below bq
            have fxq := kp bq (f_x20)
            have hxq := xB hB20 bq
            obtain ⟨zx_a, zx_b, lx21⟩ := rcell fxq
            go_wp2_with fail
            refine (kW2 _ jwq).mono ?_
            rintro e w22 ⟨rfl, hx22, rn_W22⟩
            have f_x22 := kx hx22 (fxq) (by omega)
            have hB22 := xX hxq hx22 (by omega)
            clear zx_a zx_b
            obtain ⟨zx_a, zx_b, lx22⟩ := rcell f_x22
            have ho2 : OwnR w.heap.size w22 v0 pre := ho.excP hB22 lgw
            have k1' : pre.length + [(⟨f + (F : Int), (S : Int), (C : Int)⟩ : Rn)].length ≤ 4096 := by have := hpl.out; simp; omega
            have kw : w.heap.size ≤ w22.heap.size := Nat.le_trans hx.size (hB22).size
            have kB : w.heap.size ≤ (w22.alloc (.cells #[.int .i64 (f + (F : Int)), .int .i64 (S : Int), .int .i64 (C : Int)] 46)).heap.size := by simp; omega
            go_wp2_with (at_builtin; go_loud (refine wpList_pushR rfl _ _ rfl w.heap.size _ pre [⟨f + (F : Int), (S : Int), (C : Int)⟩] _ _ rfl rfl (ho2.lift (bA (b0 _) _)) (RR.oneI _ ⟨f + (F : Int), (S : Int), (C : Int)⟩).inR k1' kB ?_; intro v1 w9 ho5 hb5 hs5))
            have hb6 : Below w.heap.size w22 w9 := hb5 w22 ((bA (b0 w22) _).mono kw)
            go_roundw
            case rel => exact ⟨k + 1, n3, z5, L, pre ++ [⟨f + (F : Int), (S : Int), (C : Int)⟩], v1, rfl, rfl, by go_num, by omega, hide (by simp [hpl.out]), hide HFB.out, ho5, hide HPU.out, (rn_W22).lowB lgw hlow.out hb6, xG (hx.trans hB22) hb6 (Nat.le_trans (by simp) hs5)⟩
            case measure => simp [intOf] <;> omega
        · have d0 : (e == 0) = false := by simp [he]
          have hres : Hid (q = (pre, pos, e)) := hide (by rw [hP.out, qRs_bad he]; simp)
          clear he
          obtain ⟨A0, c0, rfl, hr0⟩ := ho.rr
          have hup := hide ho.up
          have cR := fun w hR => ref07_Right A0 c0 pre w hR
          have kF := fun w h => c_wrong g B c b pos e (!rnB pre) w h
          generalize hrb : rnB pre = rb at *
          have HRB := hide hrb
          clear hrb hP
          obtain ⟨zg_a, zg_b, lg0⟩ := rcell jw.hg
          go_wp2_with fail
          refine (cR _ hr0).mono ?_
          rintro e' wR ⟨rfl, bR⟩
          have jw2 := jw.below bR
          have hr2 := hr0.below bR
          have hx2 := xB hx bR
          go_wp2_with fail
          refine (kF _ jw2).mono ?_
          rintro e w23 ⟨rfl, hx23, rn_W23⟩
          have rd_l23 := (hr2).we hx23 jw2
          have hB23 := xX hx2 hx23 (by omega)
          go_wp2
          go_ret
          exact ⟨_, _, _, rfl, hide ⟨by rw [hres.out], hup.out⟩, by rw [hres.out]; exact rd_l23, hB23, by rw [hres.out, HRB.out]; exact rn_W23⟩
      · obtain rfl : k = M := by omega
        have hres : Hid (q = (pre, pos, e)) := hide (by rw [hP.out, Nat.sub_self, qRs]; simp)
        obtain ⟨A0, c0, rfl, hr0⟩ := ho.rr
        have hup := hide ho.up
        have cR := fun w hR => ref07_Right A0 c0 pre w hR
        have kF := fun w h => c_wrong g B c b pos e (!rnB pre) w h
        generalize hrb : rnB pre = rb at *
        have HRB := hide hrb
        clear hrb hP
        obtain ⟨zg_a, zg_b, lg0⟩ := rcell jw.hg
        go_wp2_with fail
        refine (cR _ hr0).mono ?_
        rintro e' wR ⟨rfl, bR⟩
        have jw2 := jw.below bR
        have hr2 := hr0.below bR
        have hx2 := xB hx bR
        go_wp2_with fail
        refine (kF _ jw2).mono ?_
        rintro e w24 ⟨rfl, hx24, rn_W24⟩
        have rd_l24 := (hr2).we hx24 jw2
        have hB24 := xX hx2 hx24 (by omega)
        go_wp2
        go_ret
        exact ⟨_, _, _, rfl, hide ⟨by rw [hres.out], hup.out⟩, by rw [hres.out]; exact rd_l24, hB24, by rw [hres.out, HRB.out]; exact rn_W24⟩
end
end Go.Proofs.YtmpfbkeamihjbaaGreat

namespace Go.Proofs.YtmpfbkeamihjbaaGreat
open Go.RowKit
attribute [local go_sem] Oper.semAt_some

theorem rnSum_cnt {l : List Rn} (h : ∀ r ∈ l, 0 ≤ r.n ∧ r.n ≤ 256) : ∀ k, k ≤ l.length → 0 ≤ rnSum l k ∧ rnSum l k ≤ 256 * (k : Int)
  | 0, _ => ⟨Int.le_refl _, Int.le_refl _⟩
  | k + 1, hk => by
    have ih := rnSum_cnt h k (by omega)
    have hr := h _ (List.getElem_mem (show k < l.length by omega))
    rw [rn_eq (show k < l.length by omega)] at hr
    rw [rnSum]
    omega
theorem qRuns_n (b : List Int) (at' : Nat) (e : Int) : (∀ r ∈ (qRuns b at' e).1, 0 ≤ r.n ∧ r.n ≤ 256) ∧ (qRuns b at' e).1.length ≤ 256 := by
  unfold qRuns
  simp only
  have h1 := qU_le b 256 at' e
  have h2 := qRs_n b (qU b 256 at' e).1 0 (qU b 256 at' e).2.1 (qW (decide ((qU b 256 at' e).1 = 0)) (qU b 256 at' e).2.2)
  exact ⟨h2.1, Nat.le_trans h2.2 h1⟩

/-- what pSeg is, by what the reader that goes on has got -/
theorem seg_tie4 {b : List Int} {at' : Nat} (hk : b[at']? = some 4) {E n1 : Nat} {z1 : Int} (h1 : qU b 1099511627776 (at' + 1) 0 = (E, n1, z1)) {l : List Rn} {n2 : Nat} {z2 : Int} (h2 : qRuns b n1 z1 = (l, n2, z2)) {vs : List Int} {n3 : Nat} {z3 : Int} (h3 : qVs b (rnSum l l.length).toNat 0 n2 z2 = (vs, n3, z3)) :
    (z3 ≠ 0 → pSeg b at' = .error z3) ∧ (z3 = 0 → pSeg b at' = if sgB ⟨4, l, ⟨0, 0, 0, 0⟩, vs, E⟩ = true then .ok (⟨4, l, ⟨0, 0, 0, 0⟩, vs, E⟩, n3) else .error 7) := by
  have hK : pK b at' = .ok (4, at' + 1) := by unfold pK; rw [hk]; rfl
  unfold pSeg
  rw [hK]
  simp only
  cases e1 : pU b 1099511627776 (at' + 1) with
  | error z =>
    have hz : z ≠ 0 := by have := pU_err e1; omega
    rw [qU_er e1] at h1
    injection h1 with a1 a2
    injection a2 with a2 a3
    subst a1 a2 a3
    rw [qRuns_bad hz] at h2
    injection h2 with b1 b2
    injection b2 with b2 b3
    subst b1 b2 b3
    rw [qVs_bad hz] at h3
    injection h3 with c1 c2
    injection c2 with c2 c3
    subst c1 c2 c3
    exact ⟨fun _ => rfl, fun h => absurd h hz⟩
  | ok p =>
    obtain ⟨E', n1'⟩ := p
    rw [qU_ok e1] at h1
    injection h1 with a1 a2
    injection a2 with a2 a3
    subst a1 a2 a3
    simp only
    have t2 := tie_Runs b n1'
    cases e2 : pRuns b n1' with
    | error z =>
      rw [e2, h2] at t2
      obtain ⟨rfl, hz⟩ := t2
      simp only at hz ⊢
      rw [qVs_bad hz] at h3
      injection h3 with c1 c2
      injection c2 with c2 c3
      subst c1 c2 c3
      exact ⟨fun _ => rfl, fun h => absurd h hz⟩
    | ok p =>
      obtain ⟨l', n2'⟩ := p
      rw [e2, h2] at t2
      injection t2 with b1 b2
      injection b2 with b2 b3
      subst b1 b2 b3
      have hL : pL b 4 n2 = .ok (⟨0, 0, 0, 0⟩, n2) := by simp [pL]
      simp only
      rw [hL]
      simp only [if_true]
      have t3 := tie_Vs b (rnSum l l.length).toNat 0 n2 (by decide)
      cases e3 : pVs b (rnSum l l.length).toNat 0 n2 with
      | error z =>
        rw [e3, h3] at t3
        obtain ⟨rfl, hz⟩ := t3
        exact ⟨fun _ => rfl, fun h => absurd h hz⟩
      | ok p =>
        obtain ⟨vs', n3'⟩ := p
        rw [e3, h3] at t3
        injection t3 with c1 c2
        injection c2 with c2 c3
        subst c1 c2 c3
        exact ⟨fun h => absurd rfl h, fun _ => rfl⟩
theorem seg_tieL {b : List Int} {at' : Nat} {kd : Int} (hk1 : 1 ≤ kd) (hk3 : kd ≤ 3) (hk : b[at']? = some kd) {E n1 : Nat} {z1 : Int} (h1 : qU b 1099511627776 (at' + 1) 0 = (E, n1, z1)) {l : List Rn} {n2 : Nat} {z2 : Int} (h2 : qRuns b n1 z1 = (l, n2, z2)) {q : L4} {n3 : Nat} {z3 : Int} (h3 : qL b kd n2 z2 = (q, n3, z3)) :
    (z3 ≠ 0 → pSeg b at' = .error z3) ∧ (z3 = 0 → pSeg b at' = if sgB ⟨kd, l, q, [], E⟩ = true then .ok (⟨kd, l, q, [], E⟩, n3) else .error 7) := by
  have hK : pK b at' = .ok (kd, at' + 1) := by unfold pK; rw [hk]; simp only; rw [if_pos ⟨hk1, by omega⟩]
  unfold pSeg
  rw [hK]
  simp only
  cases e1 : pU b 1099511627776 (at' + 1) with
  | error z =>
    have hz : z ≠ 0 := by have := pU_err e1; omega
    rw [qU_er e1] at h1
    injection h1 with a1 a2
    injection a2 with a2 a3
    subst a1 a2 a3
    rw [qRuns_bad hz] at h2
    injection h2 with b1 b2
    injection b2 with b2 b3
    subst b1 b2 b3
    have := qL_bad (b := b) (kd := kd) (at' := at' + 1) hz
    rw [h3] at this
    subst this
    exact ⟨fun _ => rfl, fun h => absurd h hz⟩
  | ok p =>
    obtain ⟨E', n1'⟩ := p
    rw [qU_ok e1] at h1
    injection h1 with a1 a2
    injection a2 with a2 a3
    subst a1 a2 a3
    simp only
    have t2 := tie_Runs b n1'
    cases e2 : pRuns b n1' with
    | error z =>
      rw [e2, h2] at t2
      obtain ⟨rfl, hz⟩ := t2
      simp only at hz ⊢
      have := qL_bad (b := b) (kd := kd) (at' := n2) hz
      rw [h3] at this
      subst this
      exact ⟨fun _ => rfl, fun h => absurd h hz⟩
    | ok p =>
      obtain ⟨l', n2'⟩ := p
      rw [e2, h2] at t2
      injection t2 with b1 b2
      injection b2 with b2 b3
      subst b1 b2 b3
      simp only
      have t3 := tie_L b kd hk1 hk3 n2
      cases e3 : pL b kd n2 with
      | error z =>
        rw [e3, h3] at t3
        obtain ⟨rfl, hz⟩ := t3
        exact ⟨fun _ => rfl, fun h => absurd h hz⟩
      | ok p =>
        obtain ⟨q', n3'⟩ := p
        rw [e3, h3] at t3
        injection t3 with c1 c2
        injection c2 with c2 c3
        subst c1 c2 c3
        simp only
        rw [if_neg (by omega)]
        exact ⟨fun h => absurd rfl h, fun _ => rfl⟩

theorem c_line (kd : Int) (h1 : 1 ≤ kd) (h3 : kd ≤ 3) (g : Nat) (B : Option Addr) (c : Nat) (b : List Int) (hb : Byt b) (at' : Nat) (e0 : Int) (w : World) (h : Red g B c b at' e0 w) : Calls Tryz.prog 47 #[.pointer (some ⟨g, 0, none⟩), .int .i64 kd] w fun e w' => e = .returned (l4V (qL b kd at' e0).1) ∧ Exc g w w' ∧ Red g B c b (qL b kd at' e0).2.1 (qL b kd at' e0).2.2 w' := by
  rcases (show kd = 1 ∨ kd = 2 ∨ kd = 3 by omega) with rfl | rfl | rfl
  · exact c_line1 g B c b hb at' e0 w h
  · exact c_line2 g B c b hb at' e0 w h
  · exact c_line3 g B c b hb at' e0 w h

section
variable (B : Option Addr) (c : Nat) (b : List Int) (hb : Byt b)
set_option maxRecDepth 100000 in
set_option maxHeartbeats 4000000 in
theorem rget_arg (at' : Int) (h : at' < 0 ∨ (b.length : Int) < at') (w : World) :
    Calls Tryz.prog 18 #[.slice B b.length c, .int .i64 at'] w (RPg (gSeg b at') w) := by
  have hres : Hid (gSeg b at' = .error 2) := hide (if_pos h)
  by_cases h0 : at' < 0
  · have d0 : decide (at' < 0) = true := decide_eq_true h0
    go_enter Tryz.func18, Tryz.ntmps18
    go_wp2
    have zE := (rcell (na w #[.int .i64 0, .slice none 0 0, .int .i64 0, .int .i64 0, .int .i64 0, .int .i64 0, .slice none 0 0, .int .i64 0] 27)).1
    have zL := (rcell (na w #[.int .i64 0, .slice none 0 0, .int .i64 0, .int .i64 0, .int .i64 0, .int .i64 0, .slice none 0 0, .int .i64 0] 27)).2.2
    refine bodyPost_ret (by simp [results, Tryz.results18, go_sem, zE, zL]; try rfl) rfl ?_
    unfold RPg
    rw [hres.out]
    exact ⟨rfl, (bA (b0 w) (.cells #[.int .i64 0, .slice none 0 0, .int .i64 0, .int .i64 0, .int .i64 0, .int .i64 0, .slice none 0 0, .int .i64 0] 27))⟩
  · have d0 : decide (at' < 0) = false := decide_eq_false h0
    have d1 : decide ((b.length : Int) < at') = true := decide_eq_true (by omega)
    go_enter Tryz.func18, Tryz.ntmps18
    go_wp2
    have zE := (rcell (na w #[.int .i64 0, .slice none 0 0, .int .i64 0, .int .i64 0, .int .i64 0, .int .i64 0, .slice none 0 0, .int .i64 0] 27)).1
    have zL := (rcell (na w #[.int .i64 0, .slice none 0 0, .int .i64 0, .int .i64 0, .int .i64 0, .int .i64 0, .slice none 0 0, .int .i64 0] 27)).2.2
    refine bodyPost_ret (by simp [results, Tryz.results18, go_sem, zE, zL]; try rfl) rfl ?_
    unfold RPg
    rw [hres.out]
    exact ⟨rfl, (bA (b0 w) (.cells #[.int .i64 0, .slice none 0 0, .int .i64 0, .int .i64 0, .int .i64 0, .int .i64 0, .slice none 0 0, .int .i64 0] 27))⟩
set_option maxRecDepth 100000 in
set_option maxHeartbeats 4000000 in
theorem rget_end (w : World) :
    Calls Tryz.prog 18 #[.slice B b.length c, .int .i64 (b.length : Int)] w (RPg (pSeg b b.length) w) := by
  have hres : Hid (pSeg b b.length = .error 6) := hide (by unfold pSeg pK; rw [List.getElem?_eq_none (Nat.le_refl _)])
  have d0 : decide ((b.length : Int) < 0) = false := by simp
  go_enter Tryz.func18, Tryz.ntmps18
  go_wp2
  have zE := (rcell (na w #[.int .i64 0, .slice none 0 0, .int .i64 0, .int .i64 0, .int .i64 0, .int .i64 0, .slice none 0 0, .int .i64 0] 27)).1
  have zL := (rcell (na w #[.int .i64 0, .slice none 0 0, .int .i64 0, .int .i64 0, .int .i64 0, .int .i64 0, .slice none 0 0, .int .i64 0] 27)).2.2
  refine bodyPost_ret (by simp [results, Tryz.results18, go_sem, zE, zL]; try rfl) rfl ?_
  unfold RPg
  rw [hres.out]
  exact ⟨rfl, (bA (b0 w) (.cells #[.int .i64 0, .slice none 0 0, .int .i64 0, .int .i64 0, .int .i64 0, .int .i64 0, .slice none 0 0, .int .i64 0] 27))⟩
set_option maxRecDepth 100000 in
set_option maxHeartbeats 4000000 in
theorem rget_kind (at' : Nat) (h : at' < b.length) (kd : Int) (hbt : b[at']'h = kd) (hk : ¬ (1 ≤ kd ∧ kd ≤ 4)) (h0 : 0 ≤ kd ∧ kd < 256) (w : World) (hy : YR w B c b) :
    Calls Tryz.prog 18 #[.slice B b.length c, .int .i64 (at' : Int)] w (RPg (pSeg b at') w) := by
  have hres : Hid (pSeg b at' = .error 7) := hide (by unfold pSeg pK; rw [List.getElem?_eq_getElem h, hbt]; simp only; rw [if_neg hk])
  obtain ⟨gy, o, cur, rfl, hgy, hc⟩ := hy.mem (by omega)
  have q1 := hc at' h
  rw [hbt] at q1
  have hcap := hy.cap
  have htop := hy.top
  have d0 : decide ((at' : Int) < 0) = false := by simp
  have d1 : decide (b.length < at') = false := by simp; omega
  have d2 : ((at' : Int) == (b.length : Int)) = false := by simp; omega
  have d2' : ¬ at' = b.length := by omega
  clear hc hbt hy
  rcases (show kd < 1 ∨ (¬ kd < 1 ∧ 4 < kd) by omega) with k1 | ⟨k1, k4⟩
  · have dk : decide (kd < 1) = true := decide_eq_true k1
    go_enter Tryz.func18, Tryz.ntmps18
    obtain ⟨zy_a, zy_b, ly0⟩ := rcell hgy
    go_wp2
    have zE := (rcell (ka (na w #[.int .i64 0, .slice none 0 0, .int .i64 0, .int .i64 0, .int .i64 0, .int .i64 0, .slice none 0 0, .int .i64 0] 27) (.cells #[.int .i64 kd, .slice none 0 0, .int .i64 0, .int .i64 0, .int .i64 0, .int .i64 0, .slice none 0 0, .int .i64 0] 27))).1
    have zL := (rcell (ka (na w #[.int .i64 0, .slice none 0 0, .int .i64 0, .int .i64 0, .int .i64 0, .int .i64 0, .slice none 0 0, .int .i64 0] 27) (.cells #[.int .i64 kd, .slice none 0 0, .int .i64 0, .int .i64 0, .int .i64 0, .int .i64 0, .slice none 0 0, .int .i64 0] 27))).2.2
    refine bodyPost_ret (by simp [results, Tryz.results18, go_sem, zE, zL]; try rfl) rfl ?_
    unfold RPg
    rw [hres.out]
    exact ⟨rfl, (bA (bA (b0 w) (.cells #[.int .i64 0, .slice none 0 0, .int .i64 0, .int .i64 0, .int .i64 0, .int .i64 0, .slice none 0 0, .int .i64 0] 27)) (.cells #[.int .i64 kd, .slice none 0 0, .int .i64 0, .int .i64 0, .int .i64 0, .int .i64 0, .slice none 0 0, .int .i64 0] 27))⟩
  · have dk : decide (kd < 1) = false := decide_eq_false k1
    have dk4 : decide (4 < kd) = true := decide_eq_true k4
    go_enter Tryz.func18, Tryz.ntmps18
    obtain ⟨zy_a, zy_b, ly0⟩ := rcell hgy
    go_wp2
    have zE := (rcell (ka (na w #[.int .i64 0, .slice none 0 0, .int .i64 0, .int .i64 0, .int .i64 0, .int .i64 0, .slice none 0 0, .int .i64 0] 27) (.cells #[.int .i64 kd, .slice none 0 0, .int .i64 0, .int .i64 0, .int .i64 0, .int .i64 0, .slice none 0 0, .int .i64 0] 27))).1
    have zL := (rcell (ka (na w #[.int .i64 0, .slice none 0 0, .int .i64 0, .int .i64 0, .int .i64 0, .int .i64 0, .slice none 0 0, .int .i64 0] 27) (.cells #[.int .i64 kd, .slice none 0 0, .int .i64 0, .int .i64 0, .int .i64 0, .int .i64 0, .slice none 0 0, .int .i64 0] 27))).2.2
    refine bodyPost_ret (by simp [results, Tryz.results18, go_sem, zE, zL]; try rfl) rfl ?_
    unfold RPg
    rw [hres.out]
    exact ⟨rfl, (bA (bA (b0 w) (.cells #[.int .i64 0, .slice none 0 0, .int .i64 0, .int .i64 0, .int .i64 0, .int .i64 0, .slice none 0 0, .int .i64 0] 27)) (.cells #[.int .i64 kd, .slice none 0 0, .int .i64 0, .int .i64 0, .int .i64 0, .int .i64 0, .slice none 0 0, .int .i64 0] 27))⟩
set_option maxRecDepth 100000 in
set_option maxHeartbeats 16000000 in
include hb in
theorem rget_1 (kd : Int) (hk1 : 1 ≤ kd) (hk3 : kd ≤ 3) (at' : Nat) (h : at' < b.length) (hbt : b[at']'h = kd) (w : World) (hy : YR w B c b) :
    Calls Tryz.prog 18 #[.slice B b.length c, .int .i64 (at' : Int)] w (RPg (pSeg b at') w) := by
  have dk1 : decide (kd < 1) = false := decide_eq_false (by omega)
  have dk4 : decide (4 < kd) = false := decide_eq_false (by omega)
  have dkk : (kd == 4) = false := by simp; omega
  have hkk : b[at']? = some kd := by rw [List.getElem?_eq_getElem h, hbt]
  obtain ⟨gy, oy, cur, rfl, hgy, hc⟩ := hy.mem (by omega)
  have q1 := hc at' h
  rw [hbt] at q1
  have hcap := hy.cap
  have htop := hy.top
  have d0 : decide ((at' : Int) < 0) = false := by simp
  have d1 : decide (b.length < at') = false := by simp; omega
  have d2 : ((at' : Int) == (b.length : Int)) = false := by simp; omega
  have d2' : ¬ at' = b.length := by omega
  have hw : wrap64 ((at' : Int) + 1) = ((at' + 1 : Nat) : Int) := by unfold wrap64; omega
  have kE := fun W H => c_plain (w.heap.size + 2) (some ⟨gy, oy, none⟩) c b hb (at' + 1) 0 1099511627776 (by decide) W H
  have hE := qU_le b 1099511627776 (at' + 1) 0
  generalize hp1 : qU b 1099511627776 (at' + 1) 0 = p1 at *
  obtain ⟨E, n1, z1⟩ := p1
  simp only at kE hE
  have kR := fun W H => c_runs (w.heap.size + 2) (some ⟨gy, oy, none⟩) c b hb n1 z1 W H
  have hln := qRuns_n b n1 z1
  generalize hp2 : qRuns b n1 z1 = p2 at *
  obtain ⟨l, n2, z2⟩ := p2
  simp only at kR hln
  have kV := fun W H => c_line kd hk1 hk3 (w.heap.size + 2) (some ⟨gy, oy, none⟩) c b hb n2 z2 W H
  generalize hp3 : qL b kd n2 z2 = p3 at *
  obtain ⟨⟨qA, qR, qN, qD⟩, n3, z3⟩ := p3
  simp only [l4V] at kV
  have hT := seg_tieL hk1 hk3 hkk hp1 hp2 hp3
  have HT := hide hT
  clear hT hp1 hp2 hp3 hkk hln hbt hc
  obtain ⟨rr, hrr⟩ : ∃ r, w.heap.size + 2 = r := ⟨_, rfl⟩
  have hyb := hy
  go_enter Tryz.func18, Tryz.ntmps18
  obtain ⟨zy_a, zy_b, ly0⟩ := rcell hgy
  go_wp2_with fail
  generalize hw2 : (World.alloc _ (.cells #[.slice (some ⟨gy, oy, none⟩) b.length c, _, _] 81)) = w2
  have jW : Red (w.heap.size + 2) (some ⟨gy, oy, none⟩) c b (at' + 1) 0 w2 := by
    rw [← hw2]
    exact ⟨na2 w _ _ _ _, hy.below (bA (bA (bA (b0 w) _) _) _), h⟩
  have B2 : Below w.heap.size w w2 := by rw [← hw2]; exact bA (bA (bA (b0 w) _) _) _
  have f_o2 : w2.heap[w.heap.size]? = some (.cells #[.int .i64 0, .slice none 0 0, .int .i64 0, .int .i64 0, .int .i64 0, .int .i64 0, .slice none 0 0, .int .i64 0] 27 (0, 0)) := by rw [← hw2]; exact ka (ka (na w _ _) _) _
  have f_s2 : w2.heap[w.heap.size + 1]? = some (.cells #[.int .i64 kd, .slice none 0 0, .int .i64 0, .int .i64 0, .int .i64 0, .int .i64 0, .slice none 0 0, .int .i64 0] 27 (0, 0)) := by rw [← hw2]; exact ka (na1 w _ _ _) _
  clear hw2 hw hy q1 hgy
  rw [hrr] at kE kR kV jW
  have lr2 := jW.lt
  have lrw : w.heap.size < rr := by omega
  have lrw1 : w.heap.size + 1 ≠ rr := by omega
  have HRR := hide hrr
  clear hrr
  obtain ⟨zo_a, zo_b, lo1⟩ := rcell f_o2
  obtain ⟨zs_a, zs_b, ls2⟩ := rcell f_s2
  refine (kE _ jW).mono ?_
  rintro e w3 ⟨rfl, hx3, rn_W3⟩
  have f_o3 := kx hx3 (f_o2) (by omega)
  have f_s3 := kx hx3 (f_s2) (by omega)
  have hB3 := bX B2 hx3 (by omega)
  clear zo_a zo_b zs_a zs_b
  obtain ⟨zo_a, zo_b, lo3⟩ := rcell f_o3
  obtain ⟨zs_a, zs_b, ls3⟩ := rcell f_s3
  go_wp2_with fail
  rw [r8_at7 f_s3]
  generalize hT4 : setRow _ _ _ = w4
  obtain ⟨hx4, f_s4⟩ := fin_x (b0 _) f_s3 hT4
  clear hT4
  have f_o4 := kx hx4 (f_o3) (by omega)
  have rd_W4 := rn_W3.exc hx4 (f_s3) (by decide)
  have hB4 := bX hB3 hx4 (by omega)
  clear zo_a zo_b zs_a zs_b
  obtain ⟨zo_a, zo_b, lo4⟩ := rcell f_o4
  obtain ⟨zs_a, zs_b, ls4⟩ := rcell f_s4
  have hsz1 := (hB4).size
  refine (kR _ rd_W4).mono ?_
  rintro e w5 ⟨RA, rc, ln, rfl, hn_l, rn_l, hx5, rn_W5⟩
  have f_o5 := kx hx5 (f_o4) (by omega)
  have f_s5 := kx hx5 (f_s4) (by omega)
  have hB5 := bX hB4 hx5 (by omega)
  clear zo_a zo_b zs_a zs_b
  obtain ⟨zo_a, zo_b, lo5⟩ := rcell f_o5
  obtain ⟨zs_a, zs_b, ls5⟩ := rcell f_s5
  obtain ⟨rfl, hupA0⟩ := hn_l.out
  have hupA := hide (hupA0.mono hsz1)
  clear hupA0 hsz1 hn_l
  go_wp2_with fail
  rw [r8_at1 f_s5]
  generalize hT6 : setRow _ _ _ = w6
  obtain ⟨hx6, f_s6⟩ := fin_x (b0 _) f_s5 hT6
  clear hT6
  have f_o6 := kx hx6 (f_o5) (by omega)
  have rd_W6 := rn_W5.exc hx6 (f_s5) (by decide)
  have rd_l6 := rn_l.exc hx6 (f_s5) (by decide)
  have hB6 := bX hB5 hx6 (by omega)
  clear zo_a zo_b zs_a zs_b
  obtain ⟨zo_a, zo_b, lo6⟩ := rcell f_o6
  obtain ⟨zs_a, zs_b, ls6⟩ := rcell f_s6
  refine (kV _ rd_W6).mono ?_
  rintro e w7 ⟨rfl, hx7, rn_W7⟩
  have f_o7 := kx hx7 (f_o6) (by omega)
  have f_s7 := kx hx7 (f_s6) (by omega)
  have rd_l7 := (rd_l6).we hx7 rd_W6
  have hB7 := bX hB6 hx7 (by omega)
  clear zo_a zo_b zs_a zs_b
  obtain ⟨zo_a, zo_b, lo7⟩ := rcell f_o7
  obtain ⟨zs_a, zs_b, ls7⟩ := rcell f_s7
  by_cases hz : z3 = 0
  · subst hz
    cases hsg : sgB ⟨kd, l, ⟨qA, qR, qN, qD⟩, ([] : List Int), (E : Int)⟩
    · skip
      obtain ⟨zr_a, zr_b, lr0⟩ := rcell (rn_W7).hg
      have kRt := fun W H1 H2 => ref11_Right RA none rc 0 l ([] : List Int) kd qA qR qN qD (E : Int) W H1 H2
      rw [hsg] at kRt
      simp only [List.length_nil] at kRt
      have hres : Hid (pSeg b at' = .error 7) := hide (by rw [HT.out.2 rfl, hsg, if_neg (by simp)])
      have kW := fun W H => c_wrong rr (some ⟨gy, oy, none⟩) c b n3 0 true W H
      rw [qW_yes] at kW
      clear hsg
      go_wp2_with fail
      rw [r8_4 f_s7]
      generalize hT8 : setRow _ _ _ = w8
      obtain ⟨hx8, f_s8⟩ := fin_x (b0 _) f_s7 hT8
      clear hT8
      have f_o8 := kx hx8 (f_o7) (by omega)
      have f_r8 := kx hx8 ((rn_W7).hg) (by omega)
      have rd_l8 := rd_l7.exc hx8 (f_s7) (by decide)
      have rd_W8 := rn_W7.exc hx8 (f_s7) (by decide)
      have hB8 := bX hB7 hx8 (by omega)
      clear zo_a zo_b zr_a zr_b zs_a zs_b
      obtain ⟨zo_a, zo_b, lo8⟩ := rcell f_o8
      obtain ⟨zr_a, zr_b, lr8⟩ := rcell f_r8
      obtain ⟨zs_a, zs_b, ls8⟩ := rcell f_s8
      refine (kRt _ rd_l8 (CR.nil _ none 0 (by omega))).mono ?_
      rintro e' wT ⟨rfl, bT⟩
      have f_oT := kp bT (f_o8)
      have f_sT := kp bT (f_s8)
      have jT := (rd_W8).below bT
      have rlT := (rd_l8).below bT
      have BT := bB hB8 bT
      obtain ⟨zo_a, zo_b, lo9⟩ := rcell f_oT
      obtain ⟨zs_a, zs_b, ls10⟩ := rcell f_sT
      go_wp2_with fail
      refine (kW _ jT).mono ?_
      rintro e w11 ⟨rfl, hx11, rn_W11⟩
      have f_o11 := kx hx11 (f_oT) (by omega)
      have f_s11 := kx hx11 (f_sT) (by omega)
      have rd_l11 := (rlT).we hx11 jT
      have hB11 := bX BT hx11 (by omega)
      clear zo_a zo_b zs_a zs_b
      obtain ⟨zo_a, zo_b, lo11⟩ := rcell f_o11
      obtain ⟨zs_a, zs_b, ls11⟩ := rcell f_s11
      obtain ⟨zr_a, zr_b, lr0⟩ := rcell (rn_W11).hg
      go_wp2_with fail
      refine Abs.wp_region_abs (Abs.cls _ (fun k => k = w.heap.size)) [0, 1, 2, 3, 4, 5, 6, 7] (by kernel_rfl) (by kernel_rfl) (Below.refl _ _).drew ?_
      repeat (first | (refine Abs.step_pure rfl rfl (fun K hK => ?_); go_simp; (try go_bits); (first | refine hK _ _ ?_ | (simp only [↓IntWalk.iteOmega]; go_simp; (try go_bits); refine hK _ _ ?_)); clear hK K) | (refine Abs.step_late (v := ?_) rfl rfl (fun w0 hI => ?_) (fun K hK => ?_); rotate_left; (· have z0 := (rcell (kj hI ((rn_W11).hg) (by omega))).1; go_simp; rfl); (simp only [Act.put, List.setIfInBounds_toArray, List.set_cons_zero, List.set_cons_succ]; refine hK _ _ ?_; clear hK K)) | (refine Abs.step_skip rfl rfl (fun K hK => ?_); (simp only [Act.put, List.setIfInBounds_toArray, List.set_cons_zero, List.set_cons_succ]; refine hK _ _ ?_; clear hK K)))
      (refine Abs.step_store (T := ?_) rfl rfl rfl (fun w0 hI hF hU => ?_) (fun w0 hI hU hJ => ?_) (fun K hK => ?_); rotate_left; (· have hR := kp hI (f_o11); have hg0 := (rcell hR).1; have hg1 := (rcell hR).2.1; simp only [Abs.T_setF, Abs.T_addA, Abs.T_push, Abs.T_start]; go_simp; exact row8 hR _ _ _ _ _ _ _ _); (· first | exact trivial | exact js hJ rfl _ | exact js hJ (Or.inl rfl) _ | exact js hJ (Or.inr rfl) _); (simp only [Act.put, List.setIfInBounds_toArray, List.set_cons_zero, List.set_cons_succ]; refine hK _ _ ?_; clear hK K))
      repeat (first | (refine Abs.step_pure rfl rfl (fun K hK => ?_); go_simp; (try go_bits); (first | refine hK _ _ ?_ | (simp only [↓IntWalk.iteOmega]; go_simp; (try go_bits); refine hK _ _ ?_)); clear hK K) | (refine Abs.step_late (v := ?_) rfl rfl (fun w0 hI => ?_) (fun K hK => ?_); rotate_left; (· have z0 := (rcell (kj hI ((rn_W11).hg) (by omega))).1; go_simp; rfl); (simp only [Act.put, List.setIfInBounds_toArray, List.set_cons_zero, List.set_cons_succ]; refine hK _ _ ?_; clear hK K)) | (refine Abs.step_skip rfl rfl (fun K hK => ?_); (simp only [Act.put, List.setIfInBounds_toArray, List.set_cons_zero, List.set_cons_succ]; refine hK _ _ ?_; clear hK K)))
      intro w0 hI hF hx1 hx2
      clear hx1 hx2 hF
      simp only [Abs.T_push]
      generalize hT13 : setRow w0 _ _ = w13
      obtain ⟨hx13, f_o13⟩ := fin_x hI (f_o11) hT13
      clear hT13 hI w0
      have f_s13 := kx hx13 (f_s11) (by omega)
      have f_r13 := kx hx13 ((rn_W11).hg) (by omega)
      have hB13 := bX hB11 hx13 (by omega)
      clear zo_a zo_b zr_a zr_b zs_a zs_b
      obtain ⟨zs_a, zs_b, ls13⟩ := rcell f_s13
      obtain ⟨zr_a, zr_b, lr13⟩ := rcell f_r13
      obtain ⟨zo_a, zo_b, lo13⟩ := rcell f_o13
      go_wp2_with fail
      have zE := (rcell (f_o13)).1
      have zL := (rcell (f_o13)).2.2
      refine bodyPost_ret (by simp [results, Tryz.results18, go_sem, zE, zL]; try rfl) rfl ?_
      unfold RPg
      rw [hres.out]
      exact ⟨rfl, hB13⟩
    · skip
      obtain ⟨zr_a, zr_b, lr0⟩ := rcell (rn_W7).hg
      have kRt := fun W H1 H2 => ref11_Right RA none rc 0 l ([] : List Int) kd qA qR qN qD (E : Int) W H1 H2
      rw [hsg] at kRt
      simp only [List.length_nil] at kRt
      have hres : Hid (pSeg b at' = .ok (⟨kd, l, ⟨qA, qR, qN, qD⟩, [], E⟩, n3)) := hide (by rw [HT.out.2 rfl, if_pos hsg])
      have kW := fun W H => c_wrong rr (some ⟨gy, oy, none⟩) c b n3 0 false W H
      rw [qW_no] at kW
      clear hsg
      go_wp2_with fail
      rw [r8_4 f_s7]
      generalize hT8 : setRow _ _ _ = w8
      obtain ⟨hx8, f_s8⟩ := fin_x (b0 _) f_s7 hT8
      clear hT8
      have f_o8 := kx hx8 (f_o7) (by omega)
      have f_r8 := kx hx8 ((rn_W7).hg) (by omega)
      have rd_l8 := rd_l7.exc hx8 (f_s7) (by decide)
      have rd_W8 := rn_W7.exc hx8 (f_s7) (by decide)
      have hB8 := bX hB7 hx8 (by omega)
      clear zo_a zo_b zr_a zr_b zs_a zs_b
      obtain ⟨zo_a, zo_b, lo8⟩ := rcell f_o8
      obtain ⟨zr_a, zr_b, lr8⟩ := rcell f_r8
      obtain ⟨zs_a, zs_b, ls8⟩ := rcell f_s8
      refine (kRt _ rd_l8 (CR.nil _ none 0 (by omega))).mono ?_
      rintro e' wT ⟨rfl, bT⟩
      have f_oT := kp bT (f_o8)
      have f_sT := kp bT (f_s8)
      have jT := (rd_W8).below bT
      have rlT := (rd_l8).below bT
      have BT := bB hB8 bT
      obtain ⟨zo_a, zo_b, lo9⟩ := rcell f_oT
      obtain ⟨zs_a, zs_b, ls10⟩ := rcell f_sT
      go_wp2_with fail
      refine (kW _ jT).mono ?_
      rintro e w11 ⟨rfl, hx11, rn_W11⟩
      have f_o11 := kx hx11 (f_oT) (by omega)
      have f_s11 := kx hx11 (f_sT) (by omega)
      have rd_l11 := (rlT).we hx11 jT
      have hB11 := bX BT hx11 (by omega)
      clear zo_a zo_b zs_a zs_b
      obtain ⟨zo_a, zo_b, lo11⟩ := rcell f_o11
      obtain ⟨zs_a, zs_b, ls11⟩ := rcell f_s11
      obtain ⟨zr_a, zr_b, lr0⟩ := rcell (rn_W11).hg
      go_wp2_with fail
      refine Abs.wp_region_abs (Abs.cls _ (fun k => k = w.heap.size)) [0, 1, 2, 3, 4, 5, 6, 7] (by kernel_rfl) (by kernel_rfl) (Below.refl _ _).drew ?_
      repeat (first | (refine Abs.step_pure rfl rfl (fun K hK => ?_); go_simp; (try go_bits); (first | refine hK _ _ ?_ | (simp only [↓IntWalk.iteOmega]; go_simp; (try go_bits); refine hK _ _ ?_)); clear hK K) | (refine Abs.step_late (v := ?_) rfl rfl (fun w0 hI => ?_) (fun K hK => ?_); rotate_left; (· have z0 := (rcell (kj hI ((rn_W11).hg) (by omega))).1; have z1 := (rcell (kj hI (f_s11) (by omega))).1; go_simp; rfl); (simp only [Act.put, List.setIfInBounds_toArray, List.set_cons_zero, List.set_cons_succ]; refine hK _ _ ?_; clear hK K)) | (refine Abs.step_skip rfl rfl (fun K hK => ?_); (simp only [Act.put, List.setIfInBounds_toArray, List.set_cons_zero, List.set_cons_succ]; refine hK _ _ ?_; clear hK K)))
      (refine Abs.step_store (T := ?_) rfl rfl rfl (fun w0 hI hF hU => ?_) (fun w0 hI hU hJ => ?_) (fun K hK => ?_); rotate_left; (· have hR := kp hI (f_o11); have hg0 := (rcell hR).1; have hg1 := (rcell hR).2.1; simp only [Abs.T_setF, Abs.T_addA, Abs.T_push, Abs.T_start]; go_simp; exact row8 hR _ _ _ _ _ _ _ _); (· first | exact trivial | exact js hJ rfl _ | exact js hJ (Or.inl rfl) _ | exact js hJ (Or.inr rfl) _); (simp only [Act.put, List.setIfInBounds_toArray, List.set_cons_zero, List.set_cons_succ]; refine hK _ _ ?_; clear hK K))
      repeat (first | (refine Abs.step_pure rfl rfl (fun K hK => ?_); go_simp; (try go_bits); (first | refine hK _ _ ?_ | (simp only [↓IntWalk.iteOmega]; go_simp; (try go_bits); refine hK _ _ ?_)); clear hK K) | (refine Abs.step_late (v := ?_) rfl rfl (fun w0 hI => ?_) (fun K hK => ?_); rotate_left; (· have z0 := (rcell (kj hI ((rn_W11).hg) (by omega))).1; have z1 := (rcell (kj hI (f_s11) (by omega))).1; go_simp; rfl); (simp only [Act.put, List.setIfInBounds_toArray, List.set_cons_zero, List.set_cons_succ]; refine hK _ _ ?_; clear hK K)) | (refine Abs.step_skip rfl rfl (fun K hK => ?_); (simp only [Act.put, List.setIfInBounds_toArray, List.set_cons_zero, List.set_cons_succ]; refine hK _ _ ?_; clear hK K)))
      intro w0 hI hF hx1 hx2
      clear hx1 hx2 hF
      simp only [Abs.T_push]
      generalize hT13 : setRow w0 _ _ = w13
      obtain ⟨hx13, f_o13⟩ := fin_x hI (f_o11) hT13
      clear hT13 hI w0
      have f_s13 := kx hx13 (f_s11) (by omega)
      have f_r13 := kx hx13 ((rn_W11).hg) (by omega)
      have rd_l13 := rd_l11.exc hx13 (f_o11) (by decide)
      have hB13 := bX hB11 hx13 (by omega)
      clear zo_a zo_b zr_a zr_b zs_a zs_b
      obtain ⟨zs_a, zs_b, ls13⟩ := rcell f_s13
      obtain ⟨zr_a, zr_b, lr13⟩ := rcell f_r13
      obtain ⟨zo_a, zo_b, lo13⟩ := rcell f_o13
      go_wp2_with fail
      have zE := (rcell (f_o13)).1
      have zL := (rcell (f_o13)).2.2
      refine bodyPost_ret (by simp [results, Tryz.results18, go_sem, zE, zL]; try rfl) rfl ?_
      unfold RPg
      rw [hres.out]
      exact ⟨RA, rc, _, none, 0, _, rfl, hide ⟨rfl, rfl, hupA.out, UpA.none _⟩, rd_l13, CR.nil _ none 0 (by omega), hB13⟩
  · skip
    obtain ⟨zr_a, zr_b, lr0⟩ := rcell (rn_W7).hg
    have dz : (z3 == 0) = false := by simp [hz]
    have dz' : (z3 != 0) = true := by simp [hz]
    have hres : Hid (pSeg b at' = .error z3) := hide (HT.out.1 hz)
    have kW := fun W H => c_wrong rr (some ⟨gy, oy, none⟩) c b n3 z3 false W H
    rw [qW_no] at kW
    clear hz
    go_wp2_with fail
    rw [r8_4 f_s7]
    generalize hT8 : setRow _ _ _ = w8
    obtain ⟨hx8, f_s8⟩ := fin_x (b0 _) f_s7 hT8
    clear hT8
    have f_o8 := kx hx8 (f_o7) (by omega)
    have f_r8 := kx hx8 ((rn_W7).hg) (by omega)
    have rd_l8 := rd_l7.exc hx8 (f_s7) (by decide)
    have rd_W8 := rn_W7.exc hx8 (f_s7) (by decide)
    have hB8 := bX hB7 hx8 (by omega)
    clear zo_a zo_b zr_a zr_b zs_a zs_b
    obtain ⟨zo_a, zo_b, lo8⟩ := rcell f_o8
    obtain ⟨zr_a, zr_b, lr8⟩ := rcell f_r8
    obtain ⟨zs_a, zs_b, ls8⟩ := rcell f_s8
    refine (kW _ rd_W8).mono ?_
    rintro e w9 ⟨rfl, hx9, rn_W9⟩
    have f_o9 := kx hx9 (f_o8) (by omega)
    have f_s9 := kx hx9 (f_s8) (by omega)
    have rd_l9 := (rd_l8).we hx9 rd_W8
    have hB9 := bX hB8 hx9 (by omega)
    clear zo_a zo_b zr_a zr_b zs_a zs_b
    obtain ⟨zo_a, zo_b, lo9⟩ := rcell f_o9
    obtain ⟨zs_a, zs_b, ls9⟩ := rcell f_s9
    obtain ⟨zr_a, zr_b, lr0⟩ := rcell (rn_W9).hg
    go_wp2_with fail
    refine Abs.wp_region_abs (Abs.cls _ (fun k => k = w.heap.size)) [0, 1, 2, 3, 4, 5, 6, 7] (by kernel_rfl) (by kernel_rfl) (Below.refl _ _).drew ?_
    repeat (first | (refine Abs.step_pure rfl rfl (fun K hK => ?_); go_simp; (try go_bits); (first | refine hK _ _ ?_ | (simp only [↓IntWalk.iteOmega]; go_simp; (try go_bits); refine hK _ _ ?_)); clear hK K) | (refine Abs.step_late (v := ?_) rfl rfl (fun w0 hI => ?_) (fun K hK => ?_); rotate_left; (· have z0 := (rcell (kj hI ((rn_W9).hg) (by omega))).1; go_simp; rfl); (simp only [Act.put, List.setIfInBounds_toArray, List.set_cons_zero, List.set_cons_succ]; refine hK _ _ ?_; clear hK K)) | (refine Abs.step_skip rfl rfl (fun K hK => ?_); (simp only [Act.put, List.setIfInBounds_toArray, List.set_cons_zero, List.set_cons_succ]; refine hK _ _ ?_; clear hK K)))
    (refine Abs.step_store (T := ?_) rfl rfl rfl (fun w0 hI hF hU => ?_) (fun w0 hI hU hJ => ?_) (fun K hK => ?_); rotate_left; (· have hR := kp hI (f_o9); have hg0 := (rcell hR).1; have hg1 := (rcell hR).2.1; simp only [Abs.T_setF, Abs.T_addA, Abs.T_push, Abs.T_start]; go_simp; exact row8 hR _ _ _ _ _ _ _ _); (· first | exact trivial | exact js hJ rfl _ | exact js hJ (Or.inl rfl) _ | exact js hJ (Or.inr rfl) _); (simp only [Act.put, List.setIfInBounds_toArray, List.set_cons_zero, List.set_cons_succ]; refine hK _ _ ?_; clear hK K))
    repeat (first | (refine Abs.step_pure rfl rfl (fun K hK => ?_); go_simp; (try go_bits); (first | refine hK _ _ ?_ | (simp only [↓IntWalk.iteOmega]; go_simp; (try go_bits); refine hK _ _ ?_)); clear hK K) | (refine Abs.step_late (v := ?_) rfl rfl (fun w0 hI => ?_) (fun K hK => ?_); rotate_left; (· have z0 := (rcell (kj hI ((rn_W9).hg) (by omega))).1; go_simp; rfl); (simp only [Act.put, List.setIfInBounds_toArray, List.set_cons_zero, List.set_cons_succ]; refine hK _ _ ?_; clear hK K)) | (refine Abs.step_skip rfl rfl (fun K hK => ?_); (simp only [Act.put, List.setIfInBounds_toArray, List.set_cons_zero, List.set_cons_succ]; refine hK _ _ ?_; clear hK K)))
    intro w0 hI hF hx1 hx2
    clear hx1 hx2 hF
    simp only [Abs.T_push]
    generalize hT11 : setRow w0 _ _ = w11
    obtain ⟨hx11, f_o11⟩ := fin_x hI (f_o9) hT11
    clear hT11 hI w0
    have f_s11 := kx hx11 (f_s9) (by omega)
    have f_r11 := kx hx11 ((rn_W9).hg) (by omega)
    have hB11 := bX hB9 hx11 (by omega)
    clear zo_a zo_b zr_a zr_b zs_a zs_b
    obtain ⟨zs_a, zs_b, ls11⟩ := rcell f_s11
    obtain ⟨zr_a, zr_b, lr11⟩ := rcell f_r11
    obtain ⟨zo_a, zo_b, lo11⟩ := rcell f_o11
    go_wp2_with fail
    have zE := (rcell (f_o11)).1
    have zL := (rcell (f_o11)).2.2
    refine bodyPost_ret (by simp [results, Tryz.results18, go_sem, zE, zL]; try rfl) rfl ?_
    unfold RPg
    rw [hres.out]
    exact ⟨rfl, hB11⟩
set_option maxRecDepth 100000 in
set_option maxHeartbeats 16000000 in
include hb in
theorem rget_4 (at' : Nat) (h : at' < b.length) (hbt : b[at']'h = 4) (w : World) (hy : YR w B c b) :
    Calls Tryz.prog 18 #[.slice B b.length c, .int .i64 (at' : Int)] w (RPg (pSeg b at') w) := by
  have hkk : b[at']? = some 4 := by rw [List.getElem?_eq_getElem h, hbt]
  obtain ⟨gy, oy, cur, rfl, hgy, hc⟩ := hy.mem (by omega)
  have q1 := hc at' h
  rw [hbt] at q1
  have hcap := hy.cap
  have htop := hy.top
  have d0 : decide ((at' : Int) < 0) = false := by simp
  have d1 : decide (b.length < at') = false := by simp; omega
  have d2 : ((at' : Int) == (b.length : Int)) = false := by simp; omega
  have d2' : ¬ at' = b.length := by omega
  have hw : wrap64 ((at' : Int) + 1) = ((at' + 1 : Nat) : Int) := by unfold wrap64; omega
  have kE := fun W H => c_plain (w.heap.size + 2) (some ⟨gy, oy, none⟩) c b hb (at' + 1) 0 1099511627776 (by decide) W H
  have hE := qU_le b 1099511627776 (at' + 1) 0
  generalize hp1 : qU b 1099511627776 (at' + 1) 0 = p1 at *
  obtain ⟨E, n1, z1⟩ := p1
  simp only at kE hE
  have kR := fun W H => c_runs (w.heap.size + 2) (some ⟨gy, oy, none⟩) c b hb n1 z1 W H
  have hln := qRuns_n b n1 z1
  generalize hp2 : qRuns b n1 z1 = p2 at *
  obtain ⟨l, n2, z2⟩ := p2
  simp only at kR hln
  have hcn := rnSum_cnt hln.1
  have hM := hcn l.length (Nat.le_refl _)
  obtain ⟨M, hMM⟩ : ∃ M : Nat, rnSum l l.length = (M : Int) := ⟨(rnSum l l.length).toNat, by omega⟩
  have kV := fun W H => c_raw (w.heap.size + 2) (some ⟨gy, oy, none⟩) c b hb n2 z2 M (by have := hln.2; omega) W H
  generalize hp3 : qVs b M 0 n2 z2 = p3 at *
  obtain ⟨vs, n3, z3⟩ := p3
  simp only at kV
  have hT := seg_tie4 hkk hp1 hp2 (vs := vs) (n3 := n3) (z3 := z3) (by rw [hMM]; exact hp3)
  have HCN := hide hcn
  have HLN := hide hln
  have HMM := hide hMM
  clear hcn hM hMM
  have HT := hide hT
  clear hT hp1 hp2 hp3 hkk hln hbt hc
  obtain ⟨rr, hrr⟩ : ∃ r, w.heap.size + 2 = r := ⟨_, rfl⟩
  have hyb := hy
  go_enter Tryz.func18, Tryz.ntmps18
  obtain ⟨zy_a, zy_b, ly0⟩ := rcell hgy
  go_wp2_with fail
  generalize hw2 : (World.alloc _ (.cells #[.slice (some ⟨gy, oy, none⟩) b.length c, _, _] 81)) = w2
  have jW : Red (w.heap.size + 2) (some ⟨gy, oy, none⟩) c b (at' + 1) 0 w2 := by
    rw [← hw2]
    exact ⟨na2 w _ _ _ _, hy.below (bA (bA (bA (b0 w) _) _) _), h⟩
  have B2 : Below w.heap.size w w2 := by rw [← hw2]; exact bA (bA (bA (b0 w) _) _) _
  have f_o2 : w2.heap[w.heap.size]? = some (.cells #[.int .i64 0, .slice none 0 0, .int .i64 0, .int .i64 0, .int .i64 0, .int .i64 0, .slice none 0 0, .int .i64 0] 27 (0, 0)) := by rw [← hw2]; exact ka (ka (na w _ _) _) _
  have f_s2 : w2.heap[w.heap.size + 1]? = some (.cells #[.int .i64 4, .slice none 0 0, .int .i64 0, .int .i64 0, .int .i64 0, .int .i64 0, .slice none 0 0, .int .i64 0] 27 (0, 0)) := by rw [← hw2]; exact ka (na1 w _ _ _) _
  clear hw2 hw hy q1 hgy
  rw [hrr] at kE kR kV jW
  have lr2 := jW.lt
  have lrw : w.heap.size < rr := by omega
  have lrw1 : w.heap.size + 1 ≠ rr := by omega
  have HRR := hide hrr
  clear hrr
  obtain ⟨zo_a, zo_b, lo1⟩ := rcell f_o2
  obtain ⟨zs_a, zs_b, ls2⟩ := rcell f_s2
  refine (kE _ jW).mono ?_
  rintro e w3 ⟨rfl, hx3, rn_W3⟩
  have f_o3 := kx hx3 (f_o2) (by omega)
  have f_s3 := kx hx3 (f_s2) (by omega)
  have hB3 := bX B2 hx3 (by omega)
  clear zo_a zo_b zs_a zs_b
  obtain ⟨zo_a, zo_b, lo3⟩ := rcell f_o3
  obtain ⟨zs_a, zs_b, ls3⟩ := rcell f_s3
  go_wp2_with fail
  rw [r8_at7 f_s3]
  generalize hT4 : setRow _ _ _ = w4
  obtain ⟨hx4, f_s4⟩ := fin_x (b0 _) f_s3 hT4
  clear hT4
  have f_o4 := kx hx4 (f_o3) (by omega)
  have rd_W4 := rn_W3.exc hx4 (f_s3) (by decide)
  have hB4 := bX hB3 hx4 (by omega)
  clear zo_a zo_b zs_a zs_b
  obtain ⟨zo_a, zo_b, lo4⟩ := rcell f_o4
  obtain ⟨zs_a, zs_b, ls4⟩ := rcell f_s4
  have hsz1 := (hB4).size
  refine (kR _ rd_W4).mono ?_
  rintro e w5 ⟨RA, rc, ln, rfl, hn_l, rn_l, hx5, rn_W5⟩
  have f_o5 := kx hx5 (f_o4) (by omega)
  have f_s5 := kx hx5 (f_s4) (by omega)
  have hB5 := bX hB4 hx5 (by omega)
  clear zo_a zo_b zs_a zs_b
  obtain ⟨zo_a, zo_b, lo5⟩ := rcell f_o5
  obtain ⟨zs_a, zs_b, ls5⟩ := rcell f_s5
  obtain ⟨rfl, hupA0⟩ := hn_l.out
  have hupA := hide (hupA0.mono hsz1)
  clear hupA0 hsz1 hn_l
  go_wp2_with fail
  rw [r8_at1 f_s5]
  generalize hT6 : setRow _ _ _ = w6
  obtain ⟨hx6, f_s6⟩ := fin_x (b0 _) f_s5 hT6
  clear hT6
  have f_o6 := kx hx6 (f_o5) (by omega)
  have rd_W6 := rn_W5.exc hx6 (f_s5) (by decide)
  have rd_l6 := rn_l.exc hx6 (f_s5) (by decide)
  have hB6 := bX hB5 hx6 (by omega)
  clear zo_a zo_b zs_a zs_b
  obtain ⟨zo_a, zo_b, lo6⟩ := rcell f_o6
  obtain ⟨zs_a, zs_b, ls6⟩ := rcell f_s6
  have HL := hide rd_l6
  have HW := hide rd_W6
  have HO := hide (f_o6)
  have HS := hide (f_s6)
  have BB := hB6
  have hlc := (rd_l6).cap
  have hlt' := (rd_l6).top
  generalize hWW : w6 = wL at *
  clear hWW
  go_loopw [9, 58] (fun vm vi wr => ∃ (k : Nat) (sm : Int), vm = .int .i64 sm ∧ vi = .int .i64 k ∧ k ≤ l.length ∧ Hid (sm = rnSum l k) ∧ Below wL.heap.size wL wr) (fun _ vi _ => l.length - (intOf vi).toNat)
  case atStart => exact ⟨0, 0, rfl, rfl, by omega, hide rfl, b0 _⟩
  case round =>
    obtain ⟨k, sm, rfl, rfl, hk, hsm, hb1⟩ := hrel
    by_cases hlt : k < l.length
    · obtain ⟨gl, ol, curl, rfl, hgl, hcl⟩ := HL.out.mem (by omega)
      obtain ⟨r1, r2, r3⟩ := hcl k hlt
      rw [rn_eq hlt] at r1 r2 r3
      have hn1 := HLN.out.1 _ (List.getElem_mem hlt)
      rw [rn_eq hlt] at hn1
      have hsb := HCN.out k hk
      rw [← hsm.out] at hsb
      have hl256 := HLN.out.2
      have hst : Hid (sm + (rn l k).n = rnSum l (k + 1)) := hide (by rw [hsm.out]; rfl)
      generalize rn l k = r at *
      obtain ⟨rf, rs, rN⟩ := r
      simp only at r1 r2 r3 hn1 hst
      have hws : wrap64 (sm + rN) = sm + rN := by unfold wrap64; omega
      have jl := kp hb1 hgl
      clear hcl
      obtain ⟨zl_a, zl_b, ll7⟩ := rcell jl
      go_wp2_with fail
      go_roundw
      case rel => exact ⟨k + 1, sm + rN, by go_num, by go_num, by omega, hide hst.out, bA hb1 _⟩
      case measure => simp [intOf] <;> omega
    · obtain rfl : k = l.length := by omega
      obtain rfl : sm = (M : Int) := by rw [hsm.out]; exact HMM.out
      have rl9 := HL.out.below hb1
      have jW9 := HW.out.below hb1
      have f_o9 := kp hb1 HO.out
      have f_s9 := kp hb1 HS.out
      have BB9 := bB BB hb1
      obtain ⟨zo_a, zo_b, lo8⟩ := rcell f_o9
      obtain ⟨zs_a, zs_b, ls9⟩ := rcell f_s9
      go_wp2_with fail
      have hsz2 := (BB9).size
      refine (kV _ jW9).mono ?_
      rintro e w10 ⟨VA, vc, vn, rfl, hn_v, rn_v, hx10, rn_W10⟩
      have f_o10 := kx hx10 (f_o9) (by omega)
      have f_s10 := kx hx10 (f_s9) (by omega)
      have rd_l10 := (rl9).we hx10 jW9
      have hB10 := bX BB9 hx10 (by omega)
      clear zo_a zo_b zs_a zs_b
      obtain ⟨zo_a, zo_b, lo10⟩ := rcell f_o10
      obtain ⟨zs_a, zs_b, ls10⟩ := rcell f_s10
      obtain ⟨rfl, hupV0⟩ := hn_v.out
      have hupV := hide (hupV0.mono hsz2)
      clear hupV0 hsz2 hn_v
      by_cases hz : z3 = 0
      · subst hz
        cases hsg : sgB ⟨4, l, ⟨0, 0, 0, 0⟩, vs, (E : Int)⟩
        · skip
          obtain ⟨zr_a, zr_b, lr0⟩ := rcell (rn_W10).hg
          have kRt := fun W H1 H2 => ref11_Right RA VA rc vc l vs 4 0 0 0 0 (E : Int) W H1 H2
          rw [hsg] at kRt
          have hres : Hid (pSeg b at' = .error 7) := hide (by rw [HT.out.2 rfl, hsg, if_neg (by simp)])
          have kW := fun W H => c_wrong rr (some ⟨gy, oy, none⟩) c b n3 0 true W H
          rw [qW_yes] at kW
          clear hsg
          go_wp2_with fail
          rw [r8_at6 f_s10]
          generalize hT11 : setRow _ _ _ = w11
          obtain ⟨hx11, f_s11⟩ := fin_x (b0 _) f_s10 hT11
          clear hT11
          have f_o11 := kx hx11 (f_o10) (by omega)
          have f_r11 := kx hx11 ((rn_W10).hg) (by omega)
          have rd_l11 := rd_l10.exc hx11 (f_s10) (by decide)
          have rd_W11 := rn_W10.exc hx11 (f_s10) (by decide)
          have rd_v11 := rn_v.exc hx11 (f_s10) (by decide)
          have hB11 := bX hB10 hx11 (by omega)
          clear zo_a zo_b zr_a zr_b zs_a zs_b
          obtain ⟨zo_a, zo_b, lo11⟩ := rcell f_o11
          obtain ⟨zr_a, zr_b, lr11⟩ := rcell f_r11
          obtain ⟨zs_a, zs_b, ls11⟩ := rcell f_s11
          refine (kRt _ rd_l11 rd_v11).mono ?_
          rintro e' wT ⟨rfl, bT⟩
          have f_oT := kp bT (f_o11)
          have f_sT := kp bT (f_s11)
          have jT := (rd_W11).below bT
          have rlT := (rd_l11).below bT
          have rvT := (rd_v11).below bT
          have BT := bB hB11 bT
          obtain ⟨zo_a, zo_b, lo12⟩ := rcell f_oT
          obtain ⟨zs_a, zs_b, ls13⟩ := rcell f_sT
          go_wp2_with fail
          refine (kW _ jT).mono ?_
          rintro e w14 ⟨rfl, hx14, rn_W14⟩
          have f_o14 := kx hx14 (f_oT) (by omega)
          have f_s14 := kx hx14 (f_sT) (by omega)
          have rd_l14 := (rlT).we hx14 jT
          have rd_v14 := (rvT).we hx14 jT
          have hB14 := bX BT hx14 (by omega)
          clear zo_a zo_b zs_a zs_b
          obtain ⟨zo_a, zo_b, lo14⟩ := rcell f_o14
          obtain ⟨zs_a, zs_b, ls14⟩ := rcell f_s14
          obtain ⟨zr_a, zr_b, lr0⟩ := rcell (rn_W14).hg
          go_wp2_with fail
          refine Abs.wp_region_abs (Abs.cls _ (fun k => k = w.heap.size)) [0, 1, 2, 3, 4, 5, 6, 7] (by kernel_rfl) (by kernel_rfl) (Below.refl _ _).drew ?_
          repeat (first | (refine Abs.step_pure rfl rfl (fun K hK => ?_); go_simp; (try go_bits); (first | refine hK _ _ ?_ | (simp only [↓IntWalk.iteOmega]; go_simp; (try go_bits); refine hK _ _ ?_)); clear hK K) | (refine Abs.step_late (v := ?_) rfl rfl (fun w0 hI => ?_) (fun K hK => ?_); rotate_left; (· have z0 := (rcell (kj hI ((rn_W14).hg) (by omega))).1; go_simp; rfl); (simp only [Act.put, List.setIfInBounds_toArray, List.set_cons_zero, List.set_cons_succ]; refine hK _ _ ?_; clear hK K)) | (refine Abs.step_skip rfl rfl (fun K hK => ?_); (simp only [Act.put, List.setIfInBounds_toArray, List.set_cons_zero, List.set_cons_succ]; refine hK _ _ ?_; clear hK K)))
          (refine Abs.step_store (T := ?_) rfl rfl rfl (fun w0 hI hF hU => ?_) (fun w0 hI hU hJ => ?_) (fun K hK => ?_); rotate_left; (· have hR := kp hI (f_o14); have hg0 := (rcell hR).1; have hg1 := (rcell hR).2.1; simp only [Abs.T_setF, Abs.T_addA, Abs.T_push, Abs.T_start]; go_simp; exact row8 hR _ _ _ _ _ _ _ _); (· first | exact trivial | exact js hJ rfl _ | exact js hJ (Or.inl rfl) _ | exact js hJ (Or.inr rfl) _); (simp only [Act.put, List.setIfInBounds_toArray, List.set_cons_zero, List.set_cons_succ]; refine hK _ _ ?_; clear hK K))
          repeat (first | (refine Abs.step_pure rfl rfl (fun K hK => ?_); go_simp; (try go_bits); (first | refine hK _ _ ?_ | (simp only [↓IntWalk.iteOmega]; go_simp; (try go_bits); refine hK _ _ ?_)); clear hK K) | (refine Abs.step_late (v := ?_) rfl rfl (fun w0 hI => ?_) (fun K hK => ?_); rotate_left; (· have z0 := (rcell (kj hI ((rn_W14).hg) (by omega))).1; go_simp; rfl); (simp only [Act.put, List.setIfInBounds_toArray, List.set_cons_zero, List.set_cons_succ]; refine hK _ _ ?_; clear hK K)) | (refine Abs.step_skip rfl rfl (fun K hK => ?_); (simp only [Act.put, List.setIfInBounds_toArray, List.set_cons_zero, List.set_cons_succ]; refine hK _ _ ?_; clear hK K)))
          intro w0 hI hF hx1 hx2
          clear hx1 hx2 hF
          simp only [Abs.T_push]
          generalize hT16 : setRow w0 _ _ = w16
          obtain ⟨hx16, f_o16⟩ := fin_x hI (f_o14) hT16
          clear hT16 hI w0
          have f_s16 := kx hx16 (f_s14) (by omega)
          have f_r16 := kx hx16 ((rn_W14).hg) (by omega)
          have hB16 := bX hB14 hx16 (by omega)
          clear zo_a zo_b zr_a zr_b zs_a zs_b
          obtain ⟨zs_a, zs_b, ls16⟩ := rcell f_s16
          obtain ⟨zr_a, zr_b, lr16⟩ := rcell f_r16
          obtain ⟨zo_a, zo_b, lo16⟩ := rcell f_o16
          go_wp2_with fail
          have zE := (rcell (f_o16)).1
          have zL := (rcell (f_o16)).2.2
          refine bodyPost_ret (by simp [results, Tryz.results18, go_sem, zE, zL]; try rfl) rfl ?_
          unfold RPg
          rw [hres.out]
          exact ⟨rfl, hB16⟩
        · skip
          obtain ⟨zr_a, zr_b, lr0⟩ := rcell (rn_W10).hg
          have kRt := fun W H1 H2 => ref11_Right RA VA rc vc l vs 4 0 0 0 0 (E : Int) W H1 H2
          rw [hsg] at kRt
          have hres : Hid (pSeg b at' = .ok (⟨4, l, ⟨0, 0, 0, 0⟩, vs, E⟩, n3)) := hide (by rw [HT.out.2 rfl, if_pos hsg])
          have kW := fun W H => c_wrong rr (some ⟨gy, oy, none⟩) c b n3 0 false W H
          rw [qW_no] at kW
          clear hsg
          go_wp2_with fail
          rw [r8_at6 f_s10]
          generalize hT11 : setRow _ _ _ = w11
          obtain ⟨hx11, f_s11⟩ := fin_x (b0 _) f_s10 hT11
          clear hT11
          have f_o11 := kx hx11 (f_o10) (by omega)
          have f_r11 := kx hx11 ((rn_W10).hg) (by omega)
          have rd_l11 := rd_l10.exc hx11 (f_s10) (by decide)
          have rd_W11 := rn_W10.exc hx11 (f_s10) (by decide)
          have rd_v11 := rn_v.exc hx11 (f_s10) (by decide)
          have hB11 := bX hB10 hx11 (by omega)
          clear zo_a zo_b zr_a zr_b zs_a zs_b
          obtain ⟨zo_a, zo_b, lo11⟩ := rcell f_o11
          obtain ⟨zr_a, zr_b, lr11⟩ := rcell f_r11
          obtain ⟨zs_a, zs_b, ls11⟩ := rcell f_s11
          refine (kRt _ rd_l11 rd_v11).mono ?_
          rintro e' wT ⟨rfl, bT⟩
          have f_oT := kp bT (f_o11)
          have f_sT := kp bT (f_s11)
          have jT := (rd_W11).below bT
          have rlT := (rd_l11).below bT
          have rvT := (rd_v11).below bT
          have BT := bB hB11 bT
          obtain ⟨zo_a, zo_b, lo12⟩ := rcell f_oT
          obtain ⟨zs_a, zs_b, ls13⟩ := rcell f_sT
          go_wp2_with fail
          refine (kW _ jT).mono ?_
          rintro e w14 ⟨rfl, hx14, rn_W14⟩
          have f_o14 := kx hx14 (f_oT) (by omega)
          have f_s14 := kx hx14 (f_sT) (by omega)
          have rd_l14 := (rlT).we hx14 jT
          have rd_v14 := (rvT).we hx14 jT
          have hB14 := bX BT hx14 (by omega)
          clear zo_a zo_b zs_a zs_b
          obtain ⟨zo_a, zo_b, lo14⟩ := rcell f_o14
          obtain ⟨zs_a, zs_b, ls14⟩ := rcell f_s14
          obtain ⟨zr_a, zr_b, lr0⟩ := rcell (rn_W14).hg
          go_wp2_with fail
          refine Abs.wp_region_abs (Abs.cls _ (fun k => k = w.heap.size)) [0, 1, 2, 3, 4, 5, 6, 7] (by kernel_rfl) (by kernel_rfl) (Below.refl _ _).drew ?_
          repeat (first | (refine Abs.step_pure rfl rfl (fun K hK => ?_); go_simp; (try go_bits); (first | refine hK _ _ ?_ | (simp only [↓IntWalk.iteOmega]; go_simp; (try go_bits); refine hK _ _ ?_)); clear hK K) | (refine Abs.step_late (v := ?_) rfl rfl (fun w0 hI => ?_) (fun K hK => ?_); rotate_left; (· have z0 := (rcell (kj hI ((rn_W14).hg) (by omega))).1; have z1 := (rcell (kj hI (f_s14) (by omega))).1; go_simp; rfl); (simp only [Act.put, List.setIfInBounds_toArray, List.set_cons_zero, List.set_cons_succ]; refine hK _ _ ?_; clear hK K)) | (refine Abs.step_skip rfl rfl (fun K hK => ?_); (simp only [Act.put, List.setIfInBounds_toArray, List.set_cons_zero, List.set_cons_succ]; refine hK _ _ ?_; clear hK K)))
          (refine Abs.step_store (T := ?_) rfl rfl rfl (fun w0 hI hF hU => ?_) (fun w0 hI hU hJ => ?_) (fun K hK => ?_); rotate_left; (· have hR := kp hI (f_o14); have hg0 := (rcell hR).1; have hg1 := (rcell hR).2.1; simp only [Abs.T_setF, Abs.T_addA, Abs.T_push, Abs.T_start]; go_simp; exact row8 hR _ _ _ _ _ _ _ _); (· first | exact trivial | exact js hJ rfl _ | exact js hJ (Or.inl rfl) _ | exact js hJ (Or.inr rfl) _); (simp only [Act.put, List.setIfInBounds_toArray, List.set_cons_zero, List.set_cons_succ]; refine hK _ _ ?_; clear hK K))
          repeat (first | (refine Abs.step_pure rfl rfl (fun K hK => ?_); go_simp; (try go_bits); (first | refine hK _ _ ?_ | (simp only [↓IntWalk.iteOmega]; go_simp; (try go_bits); refine hK _ _ ?_)); clear hK K) | (refine Abs.step_late (v := ?_) rfl rfl (fun w0 hI => ?_) (fun K hK => ?_); rotate_left; (· have z0 := (rcell (kj hI ((rn_W14).hg) (by omega))).1; have z1 := (rcell (kj hI (f_s14) (by omega))).1; go_simp; rfl); (simp only [Act.put, List.setIfInBounds_toArray, List.set_cons_zero, List.set_cons_succ]; refine hK _ _ ?_; clear hK K)) | (refine Abs.step_skip rfl rfl (fun K hK => ?_); (simp only [Act.put, List.setIfInBounds_toArray, List.set_cons_zero, List.set_cons_succ]; refine hK _ _ ?_; clear hK K)))
          intro w0 hI hF hx1 hx2
          clear hx1 hx2 hF
          simp only [Abs.T_push]
          generalize hT16 : setRow w0 _ _ = w16
          obtain ⟨hx16, f_o16⟩ := fin_x hI (f_o14) hT16
          clear hT16 hI w0
          have f_s16 := kx hx16 (f_s14) (by omega)
          have f_r16 := kx hx16 ((rn_W14).hg) (by omega)
          have rd_l16 := rd_l14.exc hx16 (f_o14) (by decide)
          have rd_v16 := rd_v14.exc hx16 (f_o14) (by decide)
          have hB16 := bX hB14 hx16 (by omega)
          clear zo_a zo_b zr_a zr_b zs_a zs_b
          obtain ⟨zs_a, zs_b, ls16⟩ := rcell f_s16
          obtain ⟨zr_a, zr_b, lr16⟩ := rcell f_r16
          obtain ⟨zo_a, zo_b, lo16⟩ := rcell f_o16
          go_wp2_with fail
          have zE := (rcell (f_o16)).1
          have zL := (rcell (f_o16)).2.2
          refine bodyPost_ret (by simp [results, Tryz.results18, go_sem, zE, zL]; try rfl) rfl ?_
          unfold RPg
          rw [hres.out]
          exact ⟨RA, rc, _, VA, vc, _, rfl, hide ⟨rfl, rfl, hupA.out, hupV.out⟩, rd_l16, rd_v16, hB16⟩
      · skip
        obtain ⟨zr_a, zr_b, lr0⟩ := rcell (rn_W10).hg
        have dz : (z3 == 0) = false := by simp [hz]
        have dz' : (z3 != 0) = true := by simp [hz]
        have hres : Hid (pSeg b at' = .error z3) := hide (HT.out.1 hz)
        have kW := fun W H => c_wrong rr (some ⟨gy, oy, none⟩) c b n3 z3 false W H
        rw [qW_no] at kW
        clear hz
        go_wp2_with fail
        rw [r8_at6 f_s10]
        generalize hT11 : setRow _ _ _ = w11
        obtain ⟨hx11, f_s11⟩ := fin_x (b0 _) f_s10 hT11
        clear hT11
        have f_o11 := kx hx11 (f_o10) (by omega)
        have f_r11 := kx hx11 ((rn_W10).hg) (by omega)
        have rd_l11 := rd_l10.exc hx11 (f_s10) (by decide)
        have rd_W11 := rn_W10.exc hx11 (f_s10) (by decide)
        have rd_v11 := rn_v.exc hx11 (f_s10) (by decide)
        have hB11 := bX hB10 hx11 (by omega)
        clear zo_a zo_b zr_a zr_b zs_a zs_b
        obtain ⟨zo_a, zo_b, lo11⟩ := rcell f_o11
        obtain ⟨zr_a, zr_b, lr11⟩ := rcell f_r11
        obtain ⟨zs_a, zs_b, ls11⟩ := rcell f_s11
        refine (kW _ rd_W11).mono ?_
        rintro e w12 ⟨rfl, hx12, rn_W12⟩
        have f_o12 := kx hx12 (f_o11) (by omega)
        have f_s12 := kx hx12 (f_s11) (by omega)
        have rd_l12 := (rd_l11).we hx12 rd_W11
        have rd_v12 := (rd_v11).we hx12 rd_W11
        have hB12 := bX hB11 hx12 (by omega)
        clear zo_a zo_b zr_a zr_b zs_a zs_b
        obtain ⟨zo_a, zo_b, lo12⟩ := rcell f_o12
        obtain ⟨zs_a, zs_b, ls12⟩ := rcell f_s12
        obtain ⟨zr_a, zr_b, lr0⟩ := rcell (rn_W12).hg
        go_wp2_with fail
        refine Abs.wp_region_abs (Abs.cls _ (fun k => k = w.heap.size)) [0, 1, 2, 3, 4, 5, 6, 7] (by kernel_rfl) (by kernel_rfl) (Below.refl _ _).drew ?_
        repeat (first | (refine Abs.step_pure rfl rfl (fun K hK => ?_); go_simp; (try go_bits); (first | refine hK _ _ ?_ | (simp only [↓IntWalk.iteOmega]; go_simp; (try go_bits); refine hK _ _ ?_)); clear hK K) | (refine Abs.step_late (v := ?_) rfl rfl (fun w0 hI => ?_) (fun K hK => ?_); rotate_left; (· have z0 := (rcell (kj hI ((rn_W12).hg) (by omega))).1; go_simp; rfl); (simp only [Act.put, List.setIfInBounds_toArray, List.set_cons_zero, List.set_cons_succ]; refine hK _ _ ?_; clear hK K)) | (refine Abs.step_skip rfl rfl (fun K hK => ?_); (simp only [Act.put, List.setIfInBounds_toArray, List.set_cons_zero, List.set_cons_succ]; refine hK _ _ ?_; clear hK K)))
        (refine Abs.step_store (T := ?_) rfl rfl rfl (fun w0 hI hF hU => ?_) (fun w0 hI hU hJ => ?_) (fun K hK => ?_); rotate_left; (· have hR := kp hI (f_o12); have hg0 := (rcell hR).1; have hg1 := (rcell hR).2.1; simp only [Abs.T_setF, Abs.T_addA, Abs.T_push, Abs.T_start]; go_simp; exact row8 hR _ _ _ _ _ _ _ _); (· first | exact trivial | exact js hJ rfl _ | exact js hJ (Or.inl rfl) _ | exact js hJ (Or.inr rfl) _); (simp only [Act.put, List.setIfInBounds_toArray, List.set_cons_zero, List.set_cons_succ]; refine hK _ _ ?_; clear hK K))
        repeat (first | (refine Abs.step_pure rfl rfl (fun K hK => ?_); go_simp; (try go_bits); (first | refine hK _ _ ?_ | (simp only [↓IntWalk.iteOmega]; go_simp; (try go_bits); refine hK _ _ ?_)); clear hK K) | (refine Abs.step_late (v := ?_) rfl rfl (fun w0 hI => ?_) (fun K hK => ?_); rotate_left; (· have z0 := (rcell (kj hI ((rn_W12).hg) (by omega))).1; go_simp; rfl); (simp only [Act.put, List.setIfInBounds_toArray, List.set_cons_zero, List.set_cons_succ]; refine hK _ _ ?_; clear hK K)) | (refine Abs.step_skip rfl rfl (fun K hK => ?_); (simp only [Act.put, List.setIfInBounds_toArray, List.set_cons_zero, List.set_cons_succ]; refine hK _ _ ?_; clear hK K)))
        intro w0 hI hF hx1 hx2
        clear hx1 hx2 hF
        simp only [Abs.T_push]
        generalize hT14 : setRow w0 _ _ = w14
        obtain ⟨hx14, f_o14⟩ := fin_x hI (f_o12) hT14
        clear hT14 hI w0
        have f_s14 := kx hx14 (f_s12) (by omega)
        have f_r14 := kx hx14 ((rn_W12).hg) (by omega)
        have hB14 := bX hB12 hx14 (by omega)
        clear zo_a zo_b zr_a zr_b zs_a zs_b
        obtain ⟨zs_a, zs_b, ls14⟩ := rcell f_s14
        obtain ⟨zr_a, zr_b, lr14⟩ := rcell f_r14
        obtain ⟨zo_a, zo_b, lo14⟩ := rcell f_o14
        go_wp2_with fail
        have zE := (rcell (f_o14)).1
        have zL := (rcell (f_o14)).2.2
        refine bodyPost_ret (by simp [results, Tryz.results18, go_sem, zE, zL]; try rfl) rfl ?_
        unfold RPg
        rw [hres.out]
        exact ⟨rfl, hB14⟩
end
/-- how the reference's Decode ends: as RPd, in memory that is new -/
def RPe (r : Except Int Sg) (w : World) (e : Ending) (w' : World) : Prop :=
  match r with
  | .ok s => ∃ RA rc n VA vc m, e = .returned (.tuple #[.agg #[.int .i64 s.kd, .slice RA n rc, .int .i64 s.q.A, .int .i64 s.q.R, .int .i64 s.q.N, .int .i64 s.q.D, .slice VA m vc, .int .i64 s.er], .int .i64 0]) ∧ Hid (n = s.l.length ∧ m = s.vs.length ∧ UpA w.heap.size RA ∧ UpA w.heap.size VA) ∧ RR w' RA rc s.l ∧ VR w' VA vc s.vs ∧ Below w.heap.size w w'
  | .error z => e = .returned (.tuple #[.agg #[.int .i64 0, .slice none 0 0, .int .i64 0, .int .i64 0, .int .i64 0, .int .i64 0, .slice none 0 0, .int .i64 0], .int .i64 z]) ∧ Below w.heap.size w w'
theorem rget_in (B : Option Addr) (c : Nat) (b : List Int) (hb : Byt b) (at' : Nat) (h : at' ≤ b.length) (w : World) (hy : YR w B c b) :
    Calls Tryz.prog 18 #[.slice B b.length c, .int .i64 (at' : Int)] w (RPg (pSeg b at') w) := by
  by_cases he : at' = b.length
  · subst he
    exact rget_end B c b w
  · have hlt : at' < b.length := by omega
    have hby := hb _ (List.getElem_mem hlt)
    by_cases h4 : b[at'] = 4
    · exact rget_4 B c b hb at' hlt h4 w hy
    · by_cases hk : 1 ≤ b[at'] ∧ b[at'] ≤ 4
      · exact rget_1 B c b hb _ hk.1 (by omega) at' hlt rfl w hy
      · exact rget_kind B c b at' hlt _ rfl hk ⟨hby.1, hby.2⟩ w hy
theorem ref12_Get (B : Option Addr) (c : Nat) (b : List Int) (hb : Byt b) (at' : Int) (w : World) (hy : YR w B c b) :
    Calls Tryz.prog 18 #[.slice B b.length c, .int .i64 at'] w (RPg (gSeg b at') w) := by
  by_cases h : at' < 0 ∨ (b.length : Int) < at'
  · exact rget_arg B c b at' h w
  · obtain ⟨n, rfl⟩ : ∃ n : Nat, at' = (n : Int) := ⟨at'.toNat, by omega⟩
    have := rget_in B c b hb n (by omega) w hy
    unfold gSeg
    rw [if_neg h]
    exact this
theorem code_Get (B : Option Addr) (c : Nat) (b : List Int) (hb : Byt b) (at' : Int) (w : World) (hy : YR w B c b) :
    Calls Tryz.prog 17 #[.slice B b.length c, .int .i64 at'] w (RPg (gSeg b at') w) := by
  by_cases h : at' < 0 ∨ (b.length : Int) < at'
  · exact get_arg B c b at' h w
  · obtain ⟨n, rfl⟩ : ∃ n : Nat, at' = (n : Int) := ⟨at'.toNat, by omega⟩
    have := get_in B c b hb n (by omega) w hy
    unfold gSeg
    rw [if_neg h]
    exact this
end Go.Proofs.YtmpfbkeamihjbaaGreat

namespace Go.Proofs.YtmpfbkeamihjbaaGreat
open Go.RowKit
attribute [local go_sem] Oper.semAt_some

section
variable (B : Option Addr) (c : Nat) (b : List Int) (hb : Byt b)
set_option maxRecDepth 100000 in
set_option maxHeartbeats 4000000 in
include hb in
theorem ref12_Decode (w : World) (hy : YR w B c b) :
    Calls Tryz.prog 20 #[.slice B b.length c] w (RPe (dSeg b) w) := by
  have c1 := fun w hy => rget_in B c b hb 0 (Nat.zero_le _) w hy
  simp only [Int.natCast_zero] at c1
  go_enter Tryz.func20, Tryz.ntmps20
  go_wp2_with fail
  refine (c1 _ (hy.below (bA (b0 w) _))).mono ?_
  rintro e w3 hp
  have f_o2 := na w #[.int .i64 0, .slice none 0 0, .int .i64 0, .int .i64 0, .int .i64 0, .int .i64 0, .slice none 0 0, .int .i64 0] 27
  cases e1 : pSeg b 0 with
  | error x =>
    rw [e1] at hp
    obtain ⟨rfl, hb3⟩ := hp
    have hxx := pSeg_err e1
    have dx : (x != 0) = true := by simp; omega
    have dx2 : (x == 0) = false := by simp; omega
    have hres : Hid (dSeg b = .error x) := hide (by unfold dSeg; rw [e1])
    have f_o3 := kp hb3 f_o2
    have BB3 := bB (bA (b0 w) _) hb3
    clear e1 hxx
    go_simp
    iterate 20 (try go_step)
    generalize hw4 : World.alloc w3 _ = w4
    have f_o4 : w4.heap[w.heap.size]? = some (.cells #[.int .i64 0, .slice none 0 0, .int .i64 0, .int .i64 0, .int .i64 0, .int .i64 0, .slice none 0 0, .int .i64 0] 27 (0, 0)) := by rw [← hw4]; exact ka f_o3 _
    have f_s4 : w4.heap[w3.heap.size]? = some (.cells #[.int .i64 0, .slice none 0 0, .int .i64 0, .int .i64 0, .int .i64 0, .int .i64 0, .slice none 0 0, .int .i64 0] 27 (0, 0)) := by rw [← hw4]; exact na w3 _ _
    have BB4 : Below w.heap.size w w4 := by rw [← hw4]; exact bA BB3 _
    have ls3 := hb3.size
    simp only [World.size_alloc] at ls3
    clear hw4 f_o3 f_o2 BB3 hb3
    obtain ⟨zo_a, zo_b, lo1⟩ := rcell f_o4
    obtain ⟨zs_a, zs_b, ls2⟩ := rcell f_s4
    go_wp2_with fail
    rw [row8 (f_o4)]
    generalize hT : setRow _ _ _ = w5
    obtain ⟨hx4, f4⟩ := fin_x (b0 _) (f_o4) hT
    clear hT
    have zE := (rcell f4).1
    have zL := (rcell f4).2.2
    refine bodyPost_ret (by simp [results, Tryz.results20, go_sem, zE, zL]; try rfl) rfl ?_
    unfold RPe
    rw [hres.out]
    exact ⟨rfl, bX BB4 hx4 (by omega)⟩
  | ok p =>
    obtain ⟨⟨kd, l, ⟨qA, qR, qN, qD⟩, vs, er⟩, nx⟩ := p
    rw [e1] at hp
    obtain ⟨RA, rc, ln, VA, vc, lm, rfl, hn, rl3, rv3, hb3⟩ := hp
    replace hn := hide (And.intro hn.out.1 (And.intro hn.out.2.1 (And.intro (hn.out.2.2.1.mono (bA (b0 w) _).size) (hn.out.2.2.2.mono (bA (b0 w) _).size))))
    have f_o3 := kp hb3 f_o2
    have BB3 := bB (bA (b0 w) _) hb3
    simp only
    by_cases hnx : nx < b.length
    · have hres : Hid (dSeg b = .error 7) := hide (by unfold dSeg; rw [e1]; simp only; rw [if_pos hnx])
      have dx : decide ((nx : Int) < (b.length : Int)) = true := by simp; omega
      clear e1
      go_simp
      iterate 20 (try go_step)
      generalize hw4 : World.alloc w3 _ = w4
      have f_o4 : w4.heap[w.heap.size]? = some (.cells #[.int .i64 0, .slice none 0 0, .int .i64 0, .int .i64 0, .int .i64 0, .int .i64 0, .slice none 0 0, .int .i64 0] 27 (0, 0)) := by rw [← hw4]; exact ka f_o3 _
      have BB4 : Below w.heap.size w w4 := by rw [← hw4]; exact bA BB3 _
      clear hw4 f_o3 f_o2 BB3 hb3 rl3 rv3
      obtain ⟨zo_a, zo_b, lo3⟩ := rcell f_o4
      go_wp2_with fail
      rw [row8 (f_o4)]
      generalize hT : setRow _ _ _ = w5
      obtain ⟨hx4, f4⟩ := fin_x (b0 _) (f_o4) hT
      clear hT
      have zE := (rcell f4).1
      have zL := (rcell f4).2.2
      refine bodyPost_ret (by simp [results, Tryz.results20, go_sem, zE, zL]; try rfl) rfl ?_
      unfold RPe
      rw [hres.out]
      exact ⟨rfl, bX BB4 hx4 (by omega)⟩
    · have hres : Hid (dSeg b = .ok ⟨kd, l, ⟨qA, qR, qN, qD⟩, vs, er⟩) := hide (by unfold dSeg; rw [e1]; simp only; rw [if_neg hnx])
      have dx : decide ((nx : Int) < (b.length : Int)) = false := by simp; omega
      clear e1
      go_simp
      iterate 20 (try go_step)
      generalize hw4 : World.alloc w3 _ = w4
      have f_o4 : w4.heap[w.heap.size]? = some (.cells #[.int .i64 0, .slice none 0 0, .int .i64 0, .int .i64 0, .int .i64 0, .int .i64 0, .slice none 0 0, .int .i64 0] 27 (0, 0)) := by rw [← hw4]; exact ka f_o3 _
      have f_s4 : w4.heap[w3.heap.size]? = some (.cells #[.int .i64 kd, .slice RA ln rc, .int .i64 qA, .int .i64 qR, .int .i64 qN, .int .i64 qD, .slice VA lm vc, .int .i64 er] 27 (0, 0)) := by rw [← hw4]; exact na w3 _ _
      have BB4 : Below w.heap.size w w4 := by rw [← hw4]; exact bA BB3 _
      have ls3 := hb3.size
      simp only [World.size_alloc] at ls3
      have rl4 := rl3.below (bA (b0 w3) (.cells #[.int .i64 kd, .slice RA ln rc, .int .i64 qA, .int .i64 qR, .int .i64 qN, .int .i64 qD, .slice VA lm vc, .int .i64 er] 27))
      have rv4 := rv3.below (bA (b0 w3) (.cells #[.int .i64 kd, .slice RA ln rc, .int .i64 qA, .int .i64 qR, .int .i64 qN, .int .i64 qD, .slice VA lm vc, .int .i64 er] 27))
      first | rw [hw4] at rl4 rv4 | skip
      clear hw4 f_o3 f_o2 BB3 hb3 rl3 rv3
      obtain ⟨zo_a, zo_b, lo4⟩ := rcell f_o4
      obtain ⟨zs_a, zs_b, ls5⟩ := rcell f_s4
      go_wp2_with fail
      rw [row8 f_o4]
      generalize hT6 : setRow _ _ _ = w6
      obtain ⟨hx6, f_o6⟩ := fin_x (b0 _) f_o4 hT6
      clear hT6
      have f_s6 := kx hx6 (f_s4) (by omega)
      have rd_l6 := rl4.exc hx6 (f_o4) (by decide)
      have rd_v6 := rv4.exc hx6 (f_o4) (by decide)
      have hB6 := bX BB4 hx6 (by omega)
      clear zo_a zo_b zs_a zs_b
      obtain ⟨zs_a, zs_b, ls6⟩ := rcell f_s6
      obtain ⟨zo_a, zo_b, lo6⟩ := rcell f_o6
      have zE := (rcell (f_o6)).1
      have zL := (rcell (f_o6)).2.2
      refine bodyPost_ret (by simp [results, Tryz.results20, go_sem, zE, zL]; try rfl) rfl ?_
      unfold RPe
      rw [hres.out]
      exact ⟨RA, rc, ln, VA, vc, lm, rfl, hn, rd_l6, rd_v6, hB6⟩
end
end Go.Proofs.YtmpfbkeamihjbaaGreat

namespace Go.Proofs.YtmpfbkeamihjbaaGreat
open Go.RowKit
attribute [local go_sem] Oper.semAt_some

/-- the segment, the place, the error of an outcome -/
def sgG (r : Except Int (Sg × Nat)) : Sg × Int × Int :=
  match r with
  | .ok (s, nx) => (s, (nx : Int), 0)
  | .error z => (⟨0, [], ⟨0, 0, 0, 0⟩, [], 0⟩, 0, z)
def sgD (r : Except Int Sg) : Sg × Int :=
  match r with
  | .ok s => (s, 0)
  | .error z => (⟨0, [], ⟨0, 0, 0, 0⟩, [], 0⟩, z)
def sgA (s : Sg) (RA VA : Option Addr) (rc vc : Nat) : Value := .agg #[.int .i64 s.kd, .slice RA s.l.length rc, .int .i64 s.q.A, .int .i64 s.q.R, .int .i64 s.q.N, .int .i64 s.q.D, .slice VA s.vs.length vc, .int .i64 s.er]
theorem uniG {r : Except Int (Sg × Nat)} {w w' : World} {e : Ending} (h : RPg r w e w') : ∃ RA rc VA vc, e = .returned (.tuple #[sgA (sgG r).1 RA VA rc vc, .int .i64 (sgG r).2.1, .int .i64 (sgG r).2.2]) ∧ Hid (UpA w.heap.size RA ∧ UpA w.heap.size VA) ∧ RR w' RA rc (sgG r).1.l ∧ VR w' VA vc (sgG r).1.vs ∧ Below w.heap.size w w' := by
  cases r with
  | error z =>
    obtain ⟨rfl, hb⟩ := h
    exact ⟨none, 0, none, 0, rfl, hide ⟨UpA.none _, UpA.none _⟩, RR.nil _ _ _ (by omega), CR.nil _ _ _ (by omega), hb⟩
  | ok p =>
    obtain ⟨s, nx⟩ := p
    obtain ⟨RA, rc, n, VA, vc, m, rfl, hn, h1, h2, hb⟩ := h
    obtain ⟨rfl, rfl, u1, u2⟩ := hn.out
    exact ⟨RA, rc, VA, vc, rfl, hide ⟨u1, u2⟩, h1, h2, hb⟩
theorem uniE {r : Except Int Sg} {w w' : World} {e : Ending} (h : RPe r w e w') : ∃ RA rc VA vc, e = .returned (.tuple #[sgA (sgD r).1 RA VA rc vc, .int .i64 (sgD r).2]) ∧ Hid (UpA w.heap.size RA ∧ UpA w.heap.size VA) ∧ RR w' RA rc (sgD r).1.l ∧ VR w' VA vc (sgD r).1.vs ∧ Below w.heap.size w w' := by
  cases r with
  | error z =>
    obtain ⟨rfl, hb⟩ := h
    exact ⟨none, 0, none, 0, rfl, hide ⟨UpA.none _, UpA.none _⟩, RR.nil _ _ _ (by omega), CR.nil _ _ _ (by omega), hb⟩
  | ok s =>
    obtain ⟨RA, rc, n, VA, vc, m, rfl, hn, h1, h2, hb⟩ := h
    obtain ⟨rfl, rfl, u1, u2⟩ := hn.out
    exact ⟨RA, rc, VA, vc, rfl, hide ⟨u1, u2⟩, h1, h2, hb⟩
theorem uniD {r : Except Int Sg} {w w' : World} {e : Ending} (h : RPd r w e w') : ∃ RA rc VA vc, e = .returned (.tuple #[sgA (sgD r).1 RA VA rc vc, .int .i64 (sgD r).2]) ∧ RR w' RA rc (sgD r).1.l ∧ VR w' VA vc (sgD r).1.vs ∧ Below w.heap.size w w' := by
  cases r with
  | error z =>
    obtain ⟨rfl, hb⟩ := h
    exact ⟨none, 0, none, 0, rfl, RR.nil _ _ _ (by omega), CR.nil _ _ _ (by omega), hb⟩
  | ok s =>
    obtain ⟨RA, rc, n, VA, vc, m, rfl, hn, h1, h2, hb⟩ := h
    obtain ⟨rfl, rfl⟩ := hn.out
    exact ⟨RA, rc, VA, vc, rfl, h1, h2, hb⟩

/-- only blocks from B0 on, and below B1, may have changed -/
structure Mut (B0 B1 : Nat) (w w' : World) : Prop where
  low : Below B0 w w'
  high : ∀ k, B1 ≤ k → k < w.heap.size → w'.heap[k]? = w.heap[k]?
theorem Mut.refl (B0 B1 : Nat) (w : World) : Mut B0 B1 w w := ⟨Below.refl _ _, fun _ _ _ => rfl⟩
theorem Mut.exc {B0 B1 g : Nat} {w w1 w2 : World} (h : Mut B0 B1 w w1) (hx : Exc g w1 w2) (h0 : B0 ≤ g) (h1 : g < B1) : Mut B0 B1 w w2 :=
  ⟨h.low.trans (hx.low.mono h0), fun k hk hl => (hx.other k (Nat.lt_of_lt_of_le hl h.low.size) (by omega)).trans (h.high k hk hl)⟩
theorem CR.move {kd : IntKind} {T : TypeId} {w w' : World} {A : Option Addr} {c : Nat} {l : List Int} (h : CR kd T w A c l) (hk : ∀ g o, A = some ⟨g, o, none⟩ → g < w.heap.size → w'.heap[g]? = w.heap[g]?) : CR kd T w' A c l :=
  ⟨h.cap, h.top, fun hl => by
    obtain ⟨g, o, cur, e, h1, h2⟩ := h.mem hl
    exact ⟨g, o, cur, e, (hk g o e (Array.getElem?_eq_some_iff.1 h1).1).trans h1, h2⟩⟩
theorem RR.move {w w' : World} {A : Option Addr} {c : Nat} {l : List Rn} (h : RR w A c l) (hk : ∀ g o, A = some ⟨g, o, none⟩ → g < w.heap.size → w'.heap[g]? = w.heap[g]?) : RR w' A c l :=
  ⟨h.cap, h.top, fun hl => by
    obtain ⟨g, o, cur, e, h1, h2⟩ := h.mem hl
    exact ⟨g, o, cur, e, (hk g o e (Array.getElem?_eq_some_iff.1 h1).1).trans h1, h2⟩⟩
theorem CR.high {kd : IntKind} {T : TypeId} {B0 B1 : Nat} {w w' : World} {A : Option Addr} {c : Nat} {l : List Int} (h : CR kd T w A c l) (hm : Mut B0 B1 w w') (hu : UpA B1 A) : CR kd T w' A c l :=
  h.move fun g o e hl => hm.high g (hu _ e) hl
theorem RR.high {B0 B1 : Nat} {w w' : World} {A : Option Addr} {c : Nat} {l : List Rn} (h : RR w A c l) (hm : Mut B0 B1 w w') (hu : UpA B1 A) : RR w' A c l :=
  h.move fun g o e hl => hm.high g (hu _ e) hl

theorem CR.old {kd : IntKind} {T : TypeId} {B1 : Nat} {w0 w w' : World} {A : Option Addr} {c : Nat} {l : List Int} (h0 : CR kd T w0 A c l) (h : CR kd T w A c l) (hm : Mut w0.heap.size B1 w w') : CR kd T w' A c l :=
  ⟨h.cap, h.top, fun hl => by
    obtain ⟨g0, o0, cur0, e0, h1, -⟩ := h0.mem hl
    obtain ⟨g, o, cur, e, h2, h3⟩ := h.mem hl
    rw [e0] at e
    injection e with e
    injection e with e1 e2
    subst e1 e2
    exact ⟨g0, o0, cur, e0, (hm.low.block g0 (Array.getElem?_eq_some_iff.1 h1).1).trans h2, h3⟩⟩
theorem Mut.kp {B0 B1 k : Nat} {w w' : World} {cs : Array Value} {t : TypeId} (hm : Mut B0 B1 w w') (h : w.heap[k]? = some (.cells cs t (0, 0))) (hk : B1 ≤ k) : w'.heap[k]? = some (.cells cs t (0, 0)) := (hm.high k hk (rcell h).2.2).trans h
/-- one number of a row is changed -/
theorem VR.set {w w2 : World} {g o c k : Nat} {l : List Int} {cur : Array Value} (hk : k < l.length) (x : Int) (hg : w.heap[g]? = some (.cells cur 2 (0, 0))) (hc : ∀ i (hi : i < l.length), cur[o + i]? = some (.int .i64 l[i])) (h1 : l.length ≤ c) (h2 : c ≤ 9223372036854775807)
    (hw : w.setCell ⟨g, o + k, none⟩ (.int .i64 x) = w2) : VR w2 (some ⟨g, o, none⟩) c (l.set k x) ∧ Exc g w w2 := by
  rw [setRow_of_setCell hg (.int .i64 x) rfl] at hw
  obtain ⟨hx, hg2⟩ := fin_x (b0 w) hg hw
  refine ⟨⟨by simpa using h1, h2, fun _ => ⟨g, o, _, rfl, hg2, fun i hi => ?_⟩⟩, hx⟩
  have hi' : i < l.length := by simpa using hi
  have hlt : o + k < cur.size := (Array.getElem?_eq_some_iff.1 (hc k hk)).1
  rw [List.getElem_set]
  by_cases e : k = i
  · subst e
    simp [hlt]
  · rw [if_neg e, ← hc i hi', Array.getElem?_setIfInBounds_ne (by omega)]
/-- one run's first time is changed -/
theorem RR.setF {w w2 : World} {g o c k : Nat} {l : List Rn} {cur : Array Value} (hk : k < l.length) (x : Int) (hg : w.heap[g]? = some (.cells cur 46 (0, 0)))
    (hc : ∀ i (hi : i < l.length), cur[o + i * 3]? = some (.int .i64 l[i].f) ∧ cur[o + i * 3 + 1]? = some (.int .i64 l[i].s) ∧ cur[o + i * 3 + 2]? = some (.int .i64 l[i].n)) (h1 : l.length ≤ c) (h2 : c ≤ 9223372036854775807)
    (hw : w.setCell ⟨g, o + k * 3, none⟩ (.int .i64 x) = w2) : RR w2 (some ⟨g, o, none⟩) c (l.set k ⟨x, l[k].s, l[k].n⟩) ∧ Exc g w w2 := by
  rw [setRow_of_setCell hg (.int .i64 x) rfl] at hw
  obtain ⟨hx, hg2⟩ := fin_x (b0 w) hg hw
  refine ⟨⟨by simpa using h1, h2, fun _ => ⟨g, o, _, rfl, hg2, fun i hi => ?_⟩⟩, hx⟩
  have hi' : i < l.length := by simpa using hi
  have hlt : o + k * 3 < cur.size := (Array.getElem?_eq_some_iff.1 (hc k hk).1).1
  obtain ⟨c1, c2, c3⟩ := hc i hi'
  rw [List.getElem_set]
  by_cases e : k = i
  · subst e
    rw [if_pos rfl]
    refine ⟨by simp [hlt], ?_, ?_⟩
    · rw [Array.getElem?_setIfInBounds_ne (by omega)]; exact c2
    · rw [Array.getElem?_setIfInBounds_ne (by omega)]; exact c3
  · rw [if_neg e, Array.getElem?_setIfInBounds_ne (by omega), Array.getElem?_setIfInBounds_ne (by omega), Array.getElem?_setIfInBounds_ne (by omega)]
    exact ⟨c1, c2, c3⟩
end Go.Proofs.YtmpfbkeamihjbaaGreat
