/- Arguments by value, opened and shut: a wide number, a row of steps, a walk. -/
import Derived.Test.YtlgjapjcdpikeaaFrame
set_option linter.unusedSimpArgs false
set_option linter.unusedVariables false
namespace Go.Proofs.Ytlgjapjcdpikeaa
open Go.ChangeShapes Go.WideShapes Go.ChangeAt Go.RowKit Go.Joins

theorem array6 {α : Type} {cs : Array α} (h : cs.size = 6) : ∃ c0 c1 c2 c3 c4 c5, cs = #[c0, c1, c2, c3, c4, c5] := by
  obtain ⟨l⟩ := cs
  match l, h with
  | [c0, c1, c2, c3, c4, c5], _ => exact ⟨c0, c1, c2, c3, c4, c5, rfl⟩
theorem cells_int : Try.prog.cellsOf 3 = 1 := by kernel_rfl
theorem cells_i64 : Try.prog.cellsOf 2 = 1 := by kernel_rfl
theorem cells_u64 : Try.prog.cellsOf 44 = 1 := by kernel_rfl
theorem cells_wide : Try.prog.cellsOf 46 = 2 := by kernel_rfl
theorem cells_row : Try.prog.cellsOf 67 = 6 := by kernel_rfl

section
variable {H : Type} {enc : TypeId × Value → H} {w : World} {base b0 : Nat} {r : Reach} {spare : Nat → Bool} {held : Bool} {v : Value} {d : DataW H} {p : List MemPlace}
set_option maxRecDepth 100000 in
theorem open_wideL {n : Nat} {c0 c1 : Value} {y : DataW H × List MemPlace} (h : DataW.trod enc Try.prog w base spare held n 46 [c0, c1] = some y) :
    ∃ a b : Int, c0 = .int .i64 a ∧ c1 = .int .u64 b ∧ y = (.agg [.lit (.int .i64 a), .lit (.int .u64 b)], []) ∧ (Lit.int .i64 a).wf = true ∧ (Lit.int .u64 b).wf = true := by
  obtain ⟨y0, y1, m, hx, _, h0, h1⟩ := trod_struct2 Try.underlying46 h
  simp [cells_i64, cells_u64] at h0 h1
  obtain ⟨a, e0, rfl, wa⟩ := DataW.trod_int Try.underlying2 h0
  obtain ⟨b, e1, rfl, wb⟩ := DataW.trod_int Try.underlying44 h1
  simp at e0 e1
  subst e0 e1
  exact ⟨a, b, rfl, rfl, hx, wa, wb⟩
set_option maxRecDepth 100000 in
theorem open_wide (hv : Value.okWide Try.prog w r b0 46 v) (h : DataW.Trod enc Try.prog w base spare held 46 v d p) :
    ∃ a b : Int, v = .agg #[.int .i64 a, .int .u64 b] ∧ d = .agg [.lit (.int .i64 a), .lit (.int .u64 b)] ∧ p = [] ∧ (Lit.int .i64 a).wf = true ∧ (Lit.int .u64 b).wf = true := by
  obtain ⟨c0, c1, y0, y1, m, rfl, rfl, rfl, h0, h1⟩ := open_agg2 Try.underlying46 (by kernel_rfl) (by kernel_rfl) hv h
  obtain ⟨a, e0, rfl, wa⟩ := DataW.trod_int Try.underlying2 h0
  obtain ⟨b, e1, rfl, wb⟩ := DataW.trod_int Try.underlying44 h1
  simp at e0 e1
  subst e0 e1
  exact ⟨a, b, rfl, rfl, rfl, wa, wb⟩
set_option maxRecDepth 100000 in
theorem shut_wide {a b : Int} (wa : (Lit.int .i64 a).wf = true) (wb : (Lit.int .u64 b).wf = true) :
    DataW.Trod enc Try.prog w base spare held 46 (.agg #[.int .i64 a, .int .u64 b]) (.agg [.lit (.int .i64 a), .lit (.int .u64 b)]) [] :=
  shut_agg2 (y0 := (.lit (.int .i64 a), [])) (y1 := (.lit (.int .u64 b), [])) Try.underlying46 (by kernel_rfl) (by kernel_rfl)
    ⟨1, by simp [DataW.trod, Try.underlying2, wa]⟩ ⟨1, by simp [DataW.trod, Try.underlying44, wb]⟩
theorem shut_wideL {a b : Int} (wa : (Lit.int .i64 a).wf = true) (wb : (Lit.int .u64 b).wf = true) :
    DataW.trod enc Try.prog w base spare held 2 46 [.int .i64 a, .int .u64 b] = some (.agg [.lit (.int .i64 a), .lit (.int .u64 b)], []) := by
  have := trod_struct2_mk (enc := enc) (w := w) (base := base) (spare := spare) (held := held) (n := 1) (cs := [.int .i64 a, .int .u64 b]) (y0 := (.lit (.int .i64 a), [])) (y1 := (.lit (.int .u64 b), [])) Try.underlying46 (by simp [cells_wide])
    (by simp [cells_i64]; exact trod_int_mk 0 Try.underlying2 wa) (by simp [cells_u64]; exact trod_int_mk 0 Try.underlying44 wb)
  simpa using this

set_option maxRecDepth 100000 in
theorem open_row (hv : Value.okWide Try.prog w r b0 67 v) (h : DataW.Trod enc Try.prog w base spare held 67 v d p) :
    ∃ n ah al bh bl m : Int, v = .agg #[.int .i64 n, .int .i64 ah, .int .u64 al, .int .i64 bh, .int .u64 bl, .int .i64 m] ∧ d = .agg [.lit (.int .i64 n), .agg [.lit (.int .i64 ah), .lit (.int .u64 al)], .agg [.lit (.int .i64 bh), .lit (.int .u64 bl)], .lit (.int .i64 m)] ∧ p = [] ∧
      (Lit.int .i64 n).wf = true ∧ (Lit.int .i64 ah).wf = true ∧ (Lit.int .u64 al).wf = true ∧ (Lit.int .i64 bh).wf = true ∧ (Lit.int .u64 bl).wf = true ∧ (Lit.int .i64 m).wf = true := by
  obtain ⟨cs, rfl, hsz⟩ := okWide_struct Try.underlying67 hv
  obtain ⟨c0, c1, c2, c3, c4, c5, rfl⟩ := array6 (hsz.trans cells_row)
  obtain ⟨fuel, hf⟩ := h
  obtain ⟨y0, y1, y2, y3, k, hx, _, h0, h1, h2, h3⟩ := trod_struct4 Try.underlying67 hf
  simp [Value.cells, cells_int, cells_i64, cells_wide] at h0 h1 h2 h3
  obtain ⟨n, e0, rfl, wn⟩ := DataW.trod_int Try.underlying3 h0
  obtain ⟨ah, al, rfl, rfl, rfl, w1, w2⟩ := open_wideL h1
  obtain ⟨bh, bl, rfl, rfl, rfl, w3, w4⟩ := open_wideL h2
  obtain ⟨m, e3, rfl, wm⟩ := DataW.trod_int Try.underlying2 h3
  simp at e0 e3
  subst e0 e3
  simp at hx
  exact ⟨n, ah, al, bh, bl, m, rfl, hx.1, hx.2, wn, w1, w2, w3, w4, wm⟩
set_option maxRecDepth 100000 in
theorem shut_row {n ah al bh bl m : Int} (wn : (Lit.int .i64 n).wf = true) (w1 : (Lit.int .i64 ah).wf = true) (w2 : (Lit.int .u64 al).wf = true) (w3 : (Lit.int .i64 bh).wf = true) (w4 : (Lit.int .u64 bl).wf = true) (wm : (Lit.int .i64 m).wf = true) :
    DataW.Trod enc Try.prog w base spare held 67 (.agg #[.int .i64 n, .int .i64 ah, .int .u64 al, .int .i64 bh, .int .u64 bl, .int .i64 m])
      (.agg [.lit (.int .i64 n), .agg [.lit (.int .i64 ah), .lit (.int .u64 al)], .agg [.lit (.int .i64 bh), .lit (.int .u64 bl)], .lit (.int .i64 m)]) [] := by
  have ts := trod_struct4_mk (enc := enc) (w := w) (base := base) (spare := spare) (held := held) (n := 2) (cs := [.int .i64 n, .int .i64 ah, .int .u64 al, .int .i64 bh, .int .u64 bl, .int .i64 m])
    (y0 := (.lit (.int .i64 n), [])) (y1 := (.agg [.lit (.int .i64 ah), .lit (.int .u64 al)], [])) (y2 := (.agg [.lit (.int .i64 bh), .lit (.int .u64 bl)], [])) (y3 := (.lit (.int .i64 m), []))
    Try.underlying67 (by simp [cells_row]) (by simp [cells_int]; exact trod_int_mk 1 Try.underlying3 wn) (by simp [cells_wide]; exact shut_wideL w1 w2) (by simp [cells_wide]; exact shut_wideL w3 w4) (by simp [cells_i64]; exact trod_int_mk 1 Try.underlying2 wm)
  exact ⟨_, by simpa [Value.cells] using ts⟩

set_option maxRecDepth 100000 in
theorem open_walk (hv : Value.okWide Try.prog w r b0 76 v) (h : DataW.Trod enc Try.prog w base spare held 76 v d p) :
    ∃ a b c : Int, v = .agg #[.int .i64 a, .int .i64 b, .int .i64 c] ∧ d = .agg [.lit (.int .i64 a), .lit (.int .i64 b), .lit (.int .i64 c)] ∧ p = [] ∧
      (Lit.int .i64 a).wf = true ∧ (Lit.int .i64 b).wf = true ∧ (Lit.int .i64 c).wf = true := by
  obtain ⟨c0, c1, c2, y0, y1, y2, m, rfl, rfl, rfl, h0, h1, h2⟩ := open_agg3 Try.underlying76 (by kernel_rfl) (by kernel_rfl) hv h
  obtain ⟨a, e0, rfl, wa⟩ := DataW.trod_int Try.underlying2 h0
  obtain ⟨b, e1, rfl, wb⟩ := DataW.trod_int Try.underlying2 h1
  obtain ⟨c, e2, rfl, wc⟩ := DataW.trod_int Try.underlying3 h2
  simp at e0 e1 e2
  subst e0 e1 e2
  exact ⟨a, b, c, rfl, rfl, rfl, wa, wb, wc⟩
set_option maxRecDepth 100000 in
theorem shut_walk {a b c : Int} (wa : (Lit.int .i64 a).wf = true) (wb : (Lit.int .i64 b).wf = true) (wc : (Lit.int .i64 c).wf = true) :
    DataW.Trod enc Try.prog w base spare held 76 (.agg #[.int .i64 a, .int .i64 b, .int .i64 c]) (.agg [.lit (.int .i64 a), .lit (.int .i64 b), .lit (.int .i64 c)]) [] :=
  shut_agg3 (y0 := (.lit (.int .i64 a), [])) (y1 := (.lit (.int .i64 b), [])) (y2 := (.lit (.int .i64 c), [])) Try.underlying76 (by kernel_rfl) (by kernel_rfl)
    ⟨1, by simp [DataW.trod, Try.underlying2, wa]⟩ ⟨1, by simp [DataW.trod, Try.underlying2, wb]⟩ ⟨1, by simp [DataW.trod, Try.underlying3, wc]⟩
end
end Go.Proofs.Ytlgjapjcdpikeaa
