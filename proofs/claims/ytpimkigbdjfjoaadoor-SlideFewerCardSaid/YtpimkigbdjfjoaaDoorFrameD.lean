/- What the listed variable gives: its block; a world in which it is laid. -/
import Derived.Test.YtpimkigbdjfjoaaDoorSlide4
import Derived.Test.YtpimkigbdjfjoaaDoorFrame9
import Derived.LaidMore
import Derived.ChangeVars
import Derived.Stop.Joined
import Derived.MakeChecks
set_option linter.unusedSimpArgs false
set_option linter.unusedVariables false
namespace Go.Proofs.YtpimkigbdjfjoaaDoor
open Go.ChangeShapes Go.WideShapes Go.ChangeAt Go.RowKit Go.Joins

/-- the list of the rows -/
def laidAll {H : Type} : List (String × DataW H) := [("yearbook/slide.all", Rows.laid_yearbook_slide_all)]

theorem gAll : Tryd.prog.globalNamed "yearbook/slide.all" = some 0 := by kernel_rfl
theorem tAll : (Tryd.prog.globals[0]?).map (·.type) = some 73 := by kernel_rfl

theorem door_met (os : Os) (args : Array Value) : laidMetH Tryd.prog laidAll ((World.doorLaid Tryd.prog 400 os).forCall (fun _ _ => 0) ⟨#[], args, []⟩).memory :=
  laidMetH_of_parts3 (fuel := 8) (laidMet_of_run' 8 (by kernel_rfl) (by kernel_rfl)) (by kernel_rfl) (by kernel_rfl)

theorem open_sl {H : Type} {enc : TypeId × Value → H} {w : World} {base fuel : Nat} {sp : Nat → Bool} {held : Bool} {a b : Value} {x : DataW H × List MemPlace} (h : DataW.trod enc Tryd.prog w base sp held fuel 26 [a, b] = some x) :
    ∃ n d : Int, a = .int .i64 n ∧ b = .int .i64 d ∧ x.1 = .agg [.lit (.int .i64 n), .lit (.int .i64 d)] := by
  obtain ⟨xs, n, _, rfl, hlen, hxl, hf⟩ := DataW.trod_struct Tryd.underlying26 h
  have hC1 : Tryd.prog.cellsOf 2 = 1 := by kernel_rfl
  match xs, hxl with
  | [y0, y1], _ =>
    have k0 : DataW.trod enc Tryd.prog w base sp held n 2 ((([a, b] : List Value).drop 0).take (Tryd.prog.cellsOf 2)) = some y0 := hf 0 _ rfl
    have k1 : DataW.trod enc Tryd.prog w base sp held n 2 ((([a, b] : List Value).drop 1).take (Tryd.prog.cellsOf 2)) = some y1 := hf 1 _ rfl
    rw [hC1] at k0 k1
    obtain ⟨u, e0, f0, _⟩ := DataW.trod_int Tryd.underlying2 k0
    obtain ⟨v, e1, f1, _⟩ := DataW.trod_int Tryd.underlying2 k1
    simp at e0 e1
    subst f0 f1
    exact ⟨u, v, e0, e1, rfl⟩

theorem arr4 {cs : Array Value} {a b c d : Value} (h : cs.toList = [a, b, c, d]) : cs = #[a, b, c, d] := by
  cases cs; simp_all

theorem of_laid {W : World} (h : laidMetH Tryd.prog laidAll W) : ∃ t, W.heap[0]? = some (.cells all4 t (0, 0)) := by
  rw [MakeChecks.laidMetH_plain _ _ _ (by kernel_rfl)] at h
  obtain ⟨ps, ⟨g0, t0, cs0, f0, p0, q0, hg0, ht0, hv0, hd0, _, rfl⟩, _, hrows⟩ := h
  obtain rfl := Option.some.inj (gAll.symm.trans hg0)
  obtain rfl := Option.some.inj (tAll.symm.trans ht0)
  have hC : Tryd.prog.cellsOf 73 = 4 := by kernel_rfl
  have hC2 : Tryd.prog.cellsOf 26 = 2 := by kernel_rfl
  have hC1 : Tryd.prog.cellsOf 2 = 1 := by kernel_rfl
  obtain ⟨xs, m, -, hx, hlen, hn, hel⟩ := DataW.trod_array Tryd.underlying73 hd0
  rw [hC] at hlen
  rw [hC2] at hel
  have hcs : ∃ a b c d, cs0.toList = [a, b, c, d] := by
    match hl : cs0.toList, hlen with
    | [a, b, c, d], _ => exact ⟨a, b, c, d, rfl⟩
  obtain ⟨a, b, c, d, hcs⟩ := hcs
  rw [hcs] at hel
  have h0 := hel 0 (by decide)
  have h1 := hel 1 (by decide)
  match xs, hn with
  | [x0, x1], _ =>
    have k0 : DataW.trod (fun _ => ()) Tryd.prog W 0 (fun _ => true) false m 26 [a, b] = some x0 := h0
    have k1 : DataW.trod (fun _ => ()) Tryd.prog W 0 (fun _ => true) false m 26 [c, d] = some x1 := h1
    obtain ⟨n0, d0, rfl, rfl, e0⟩ := open_sl k0
    obtain ⟨n1, d1, rfl, rfl, e1⟩ := open_sl k1
    have hx1 := congrArg Prod.fst hx
    simp only [List.map_cons, List.map_nil, e0, e1, Rows.laid_yearbook_slide_all, DataW.agg.injEq, List.cons.injEq, DataW.lit.injEq, Lit.int.injEq, and_true, true_and] at hx1
    obtain ⟨⟨rfl, rfl⟩, rfl, rfl⟩ := hx1
    have hr := (hrows 0 0 (by
      rw [arr4 hcs]
      simp [MemPlace.row, List.range_succ])).1
    obtain ⟨c', t', hb⟩ := hr
    refine ⟨t', ?_⟩
    have hv := hv0
    unfold World.var? at hv
    rw [gAll] at hv
    simp only [Option.bind_some, hb] at hv
    obtain rfl := Option.some.inj hv
    rw [hb, arr4 hcs]
    rfl
end Go.Proofs.YtpimkigbdjfjoaaDoor
