/- yearbookref05 at this program, on: Back, Time, Raised; line.Of and line.Raised. -/
import Derived.Test.YtmpfbkeamihjbaaGreatRef10
import Derived.Test.YtmpfbkeamihjbaaGreatP3
set_option linter.unusedSimpArgs false
set_option linter.unusedVariables false
namespace Go.Proofs.YtmpfbkeamihjbaaGreat
open Go.RowKit

theorem ref_Back0 (v : Int) (w : World) : Calls Tryz.prog 59 #[.int .i64 v] w fun e w' => e = .returned (.bool (bkB v)) ∧ w = w' := by
  by_cases h1 : -2305844108725321728 ≤ v
  · by_cases h2 : v ≤ 2305844108725321728
    · have hb : bkB v = true := decide_eq_true ⟨h1, h2⟩
      rw [hb]
      clear hb
      go_enter Tryz.func59, Tryz.ntmps59
      go_wp2
      go_ret
      exact ⟨rfl, rfl⟩
    · have hb : bkB v = false := decide_eq_false (fun h => h2 h.2)
      rw [hb]
      clear hb
      go_enter Tryz.func59, Tryz.ntmps59
      go_wp2
      go_ret
      exact ⟨rfl, rfl⟩
  · have hb : bkB v = false := decide_eq_false (fun h => h1 h.1)
    rw [hb]
    clear hb
    go_enter Tryz.func59, Tryz.ntmps59
    go_wp2
    go_ret
    exact ⟨rfl, rfl⟩

set_option maxHeartbeats 1000000 in

theorem ref_Back (v : Int) (w : World) : Calls Tryz.prog 59 #[.int .i64 v] w fun e w' => e = .returned (.bool (bkB v)) ∧ Below w.heap.size w w' :=
  (ref_Back0 v w).mono fun e w' ⟨h1, h2⟩ => ⟨h1, h2 ▸ Below.refl _ _⟩
/-- a value is two numbers -/
def Num2Is (x y : Int) (v : Value) (w : World) : Prop := ∃ A c B d, v = .tuple #[.agg #[.bool (decide (x < 0)), .slice A (sz x.natAbs).length c], .agg #[.bool (decide (y < 0)), .slice B (sz y.natAbs).length d]] ∧ Rd w A c (sz x.natAbs) ∧ Rd w B d (sz y.natAbs)
theorem Num2Is.rds {x y : Int} {A B : Option Addr} {b b' : Bool} {m c n d : Nat} {w : World} (h : Num2Is x y (.tuple #[.agg #[.bool b, .slice A m c], .agg #[.bool b', .slice B n d]]) w) : Rd w A c (sz x.natAbs) ∧ Rd w B d (sz y.natAbs) := by
  obtain ⟨A', c', B', d', e, hr, hs⟩ := h
  simp at e
  obtain ⟨⟨_, rfl, _, rfl⟩, _, rfl, _, rfl⟩ := e
  exact ⟨hr, hs⟩
theorem Cl_Num2Is (x y : Int) {v : Value} : Abs.Cl (fun _ => False) (Num2Is x y v) := by
  intro w w' ⟨A, c, B, d, e, hr, hs⟩ h
  have key : ∀ {A : Option Addr} {c : Nat} {l : List Nat}, Rd w A c l → Rd w' A c l := fun {A c l} hr => by
    refine ⟨hr.cap, fun hl => ?_⟩
    obtain ⟨g, cur, e1, hg, hc⟩ := hr.mem hl
    exact ⟨g, cur, e1, (h.block g (Array.getElem?_eq_some_iff.1 hg).1 (fun hf => hf)).trans hg, hc⟩
  exact ⟨A, c, B, d, e, key hr, key hs⟩
theorem GivesNum2.num2 {x y : Int} {w w' : World} {e : Ending} (h : GivesNum2 x y w e w') : ∃ v, e = .returned v ∧ Below w.heap.size w w' ∧ Num2Is x y v w' := by
  obtain ⟨A, c, B, d, he, hb, hr, hs⟩ := h
  exact ⟨_, he, hb, A, c, B, d, rfl, hr, hs⟩

end Go.Proofs.YtmpfbkeamihjbaaGreat
