/- yearbookref10.Let over a row's first bands. -/
import Derived.Test.YtpimkigbdjfjoaaDoorRef10l
set_option linter.unusedSimpArgs false
set_option linter.unusedVariables false
namespace Go.Proofs.YtpimkigbdjfjoaaDoor
open Go.RowKit

theorem ref10_Let (g o c : Nat) (l : List Bd) (cur : Array Value) (h : okF (-1) l = true) (hn : l.length ≤ 260) (k : Nat) (hk : k < l.length)
    (hc : ∀ i, i < l.length → cur[o + i * 3]? = some (.int .i64 (bd l i).t) ∧ cur[o + i * 3 + 1]? = some (.int .i64 (bd l i).lo) ∧ cur[o + i * 3 + 2]? = some (.int .i64 (bd l i).hi))
    (n0 d0 n1 d1 : Int) (hs : sk l k = (⟨n0, d0⟩, ⟨n1, d1⟩)) (E0 E1 : Sl) (hE : sk l (k + 1) = (E0, E1)) (w : World) (hg : w.heap[g]? = some (.cells cur 37 (0, 0))) :
    Calls Tryd.prog 47 #[.slice (some ⟨g, o, none⟩) k c, .agg #[.int .i64 (bd l k).t, .int .i64 (bd l k).lo, .int .i64 (bd l k).hi], .agg #[.int .i64 n0, .int .i64 d0], .agg #[.int .i64 n1, .int .i64 d1]] w fun e w' => e = .returned (.tuple #[.agg #[.int .i64 E0.n, .int .i64 E0.d], .agg #[.int .i64 E1.n, .int .i64 E1.d]]) ∧ Below w.heap.size w w' := by
  have hlen : (l.take k).length = k := by rw [List.length_take]; omega
  have rk := bd_rg h k hk
  have hv := lk_inv h hk (sk_inv h k (by omega))
  have hx : ∀ i, i ≤ k → lx (l.take k) (bd l k) (⟨n0, d0⟩, ⟨n1, d1⟩) i = lk l k (sk l k) i := fun i hi => by
    rw [lx_take l _ _ k i hi, lk_lx, hs]
  have key := ref10_Let_in g o c (l.take k) cur (bd l k).t (bd l k).lo (bd l k).hi n0 d0 n1 d1 (hide rfl) ⟨rk.1, rk.2.1, rk.2.2.2.1.1, rk.2.2.2.1.2, rk.2.2.2.2.1, rk.2.2.2.2.2⟩
    (hide fun i hi => by
      rw [hlen] at hi
      rw [bd_take hi]
      have ri := bd_rg h i (by omega)
      exact ⟨⟨ri.1, t_lt h i k hi hk⟩, ri.2.2.2.1, ri.2.2.2.2⟩)
    (hide fun i hi => by
      rw [hlen] at hi
      have e := hx i hi
      have := hv i hi
      rw [← e] at this
      exact ⟨this.v1, this.v2⟩)
    (hide fun i hi => by
      rw [hlen] at hi
      rw [bd_take hi]
      exact hc i (by omega))
    (by omega) w hg E0 E1 (hide (by
      rw [hlen]
      have e := hx k (Nat.le_refl _)
      rw [sk] at hE
      exact e.trans hE))
  rw [hlen] at key
  exact key
end Go.Proofs.YtpimkigbdjfjoaaDoor
