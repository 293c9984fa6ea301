/- slide.less in every case; what takes keeps between two rounds. -/
import Derived.Test.YtpimkigbdjfjoaaDoorSlide1
import Derived.Test.YtpimkigbdjfjoaaDoorRef10l
set_option linter.unusedSimpArgs false
set_option linter.unusedVariables false
namespace Go.Proofs.YtpimkigbdjfjoaaDoor
open Go.RowKit

def lessB (a b : Sl) : Bool := slB a.n a.d && slB b.n b.d && decide (a.n * b.d < b.n * a.d)
theorem lessB_lt {a b : Sl} (h1 : slIs a = true) (h2 : slIs b = true) : lessB a b = a.lt b := by
  unfold slIs at h1 h2
  unfold lessB Sl.lt
  rw [h1, h2]; simp

set_option maxHeartbeats 1000000 in
theorem slide_less_all (a b c d : Int) (w : World) :
    Calls Tryd.prog 121 #[.agg #[.int .i64 a, .int .i64 b], .agg #[.int .i64 c, .int .i64 d]] w fun e w' => e = .returned (.bool (lessB ⟨a, b⟩ ⟨c, d⟩)) ∧ Below w.heap.size w w' := by
  by_cases h : slB a b = true ∧ slB c d = true
  · have e : lessB ⟨a, b⟩ ⟨c, d⟩ = decide (a * d < c * b) := by unfold lessB; simp only; rw [h.1, h.2]; simp
    rw [e]
    exact slide_less a b c d h.1 h.2 w
  · have e : lessB ⟨a, b⟩ ⟨c, d⟩ = false := by
      unfold lessB
      simp only
      cases h1 : slB a b
      · rfl
      · cases h2 : slB c d
        · rfl
        · exact absurd ⟨h1, h2⟩ h
    rw [e]
    have c1 := line_Compare_no a b c d h
    clear h e
    go_enter Tryd.func121, Tryd.ntmps121
    go_wp2_with fail
    refine (c1 _).mono ?_
    rintro e w1 ⟨rfl, hb1⟩
    have f_p1 := kp hb1 (ka (na w #[.int .i64 a, .int .i64 b] 26) (.cells #[.int .i64 c, .int .i64 d] 26))
    have f_q1 := kp hb1 (na1 w (.cells #[.int .i64 a, .int .i64 b] 26) #[.int .i64 c, .int .i64 d] 26)
    have hB1 := bB (bA (bA (b0 w) (.cells #[.int .i64 a, .int .i64 b] 26)) (.cells #[.int .i64 c, .int .i64 d] 26)) hb1
    obtain ⟨zp_a, zp_b, lp1⟩ := rcell f_p1
    obtain ⟨zq_a, zq_b, lq1⟩ := rcell f_q1
    go_wp2
    go_ret
    exact ⟨rfl, hB1⟩

def st2 (s x : Sl × Sl) : Sl × Sl := (if lessB s.1 x.1 = true then x.1 else s.1, if lessB x.2 s.2 = true then x.2 else s.2)
def fold2 (s : Sl × Sl) (xs : List (Sl × Sl)) : Sl × Sl := xs.foldl st2 s
theorem fold2_snoc (s : Sl × Sl) (xs : List (Sl × Sl)) (x : Sl × Sl) : fold2 s (xs ++ [x]) = st2 (fold2 s xs) x := by unfold fold2; rw [List.foldl_append]; rfl
theorem fold2_upto (l : List Bd) (b : Bd) (s : Sl × Sl) (n : Nat) (hv : ∀ i, i ≤ n → slIs (lx l b s i).1 = true ∧ slIs (lx l b s i).2 = true) (hw : ∀ i, i < n → slIs (lo2 (bd l i) b) = true ∧ slIs (hi2 (bd l i) b) = true) :
    ∀ k, k ≤ n → fold2 s (upto (lt2 l b) k) = lx l b s k
  | 0, _ => rfl
  | k + 1, hk => by
    rw [upto_succ, fold2_snoc, fold2_upto l b s n hv hw k (by omega), lx]
    obtain ⟨v1, v2⟩ := hv k (by omega)
    obtain ⟨w1, w2⟩ := hw k (by omega)
    unfold st2 let1 lt2
    simp only
    rw [lessB_lt v1 w1, lessB_lt w2 v2]

def cs4 (s : Sl × Sl) : Array Value := #[.int .i64 s.1.n, .int .i64 s.1.d, .int .i64 s.2.n, .int .i64 s.2.d]
theorem r4_01 {w : World} {g : Nat} {a0 a1 a2 a3 : Value} {t : TypeId} {f : Nat × Nat} (h : w.heap[g]? = some (.cells #[a0, a1, a2, a3] t f)) (v0 v1 : Value) :
    (w.setCell ⟨g, 0, none⟩ v0).setCell ⟨g, 1, none⟩ v1 = setRow w g #[v0, v1, a2, a3] := by
  rw [setRow_of_setCell (cs' := #[v0, a1, a2, a3]) h v0 rfl, setRow_of_setCell (cs' := #[v0, v1, a2, a3]) (setRow_same h) v1 rfl, setRow_setRow]
theorem r4_23 {w : World} {g : Nat} {a0 a1 a2 a3 : Value} {t : TypeId} {f : Nat × Nat} (h : w.heap[g]? = some (.cells #[a0, a1, a2, a3] t f)) (v0 v1 : Value) :
    (w.setCell ⟨g, 2, none⟩ v0).setCell ⟨g, 3, none⟩ v1 = setRow w g #[a0, a1, v0, v1] := by
  rw [setRow_of_setCell (cs' := #[a0, a1, v0, a3]) h v0 rfl, setRow_of_setCell (cs' := #[a0, a1, v0, v1]) (setRow_same h) v1 rfl, setRow_setRow]
theorem r5_4 {w : World} {g : Nat} {a0 a1 a2 a3 a4 : Value} {t : TypeId} {f : Nat × Nat} (h : w.heap[g]? = some (.cells #[a0, a1, a2, a3, a4] t f)) (v0 v1 v2 v3 : Value) :
    (((w.setCell ⟨g, 0, none⟩ v0).setCell ⟨g, 1, none⟩ v1).setCell ⟨g, 2, none⟩ v2).setCell ⟨g, 3, none⟩ v3 = setRow w g #[v0, v1, v2, v3, a4] := by
  rw [setRow_of_setCell (cs' := #[v0, a1, a2, a3, a4]) h v0 rfl, setRow_of_setCell (cs' := #[v0, v1, a2, a3, a4]) (setRow_same h) v1 rfl, setRow_setRow,
    setRow_of_setCell (cs' := #[v0, v1, v2, a3, a4]) (setRow_same h) v2 rfl, setRow_setRow, setRow_of_setCell (cs' := #[v0, v1, v2, v3, a4]) (setRow_same h) v3 rfl, setRow_setRow]
theorem r5_1 {w : World} {g : Nat} {a0 a1 a2 a3 a4 : Value} {t : TypeId} {f : Nat × Nat} (h : w.heap[g]? = some (.cells #[a0, a1, a2, a3, a4] t f)) (v : Value) :
    w.setCell ⟨g, 4, none⟩ v = setRow w g #[a0, a1, a2, a3, v] := by
  rw [setRow_of_setCell (cs' := #[a0, a1, a2, a3, v]) h v rfl]

/-- what takes keeps between two rounds -/
def tkI (w : World) (b : Bd) (s : Sl × Sl) (pre : List (Sl × Sl)) (W : World) : Prop :=
  W.heap[w.heap.size + 1]? = some (.cells (cs4 (fold2 s pre)) 73 (0, 0)) ∧ W.heap[w.heap.size]? = some (.cells #[.int .i64 b.t, .int .i64 b.lo, .int .i64 b.hi] 37 (0, 0)) ∧
  W.heap[w.heap.size + 1 + 1 + 1]? = some (.cells #[.int .i64 b.t, .int .i64 b.lo, .int .i64 b.hi] 37 (0, 0)) ∧ Below w.heap.size w W
theorem tkI.keep {w : World} {b : Bd} {s : Sl × Sl} {pre : List (Sl × Sl)} {B : Nat} {X Y : World} (h : tkI w b s pre X) (hB : w.heap.size + 4 ≤ B) (hb : Below B X Y) : tkI w b s pre Y := by
  obtain ⟨h1, h2, h3, h4⟩ := h
  exact ⟨(hb.block _ (by omega)).trans h1, (hb.block _ (by omega)).trans h2, (hb.block _ (by omega)).trans h3, h4.trans (hb.mono (by omega))⟩
/-- the first half of a round -/
theorem tkI.put0 {w : World} {b : Bd} {s : Sl × Sl} {pre : List (Sl × Sl)} {B : Nat} {W : World} {c : Sl × Sl} (hc : fold2 s pre = c) (h : tkI w b s pre W) (hB : w.heap.size + 4 ≤ B) (n d : Int) :
    ∃ W1, (W.setCell ⟨w.heap.size + 1, 0, none⟩ (.int .i64 n)).setCell ⟨w.heap.size + 1, 1, none⟩ (.int .i64 d) = W1 ∧ Exc (w.heap.size + 1) W W1 ∧ W1.heap[w.heap.size + 1]? = some (.cells (cs4 (⟨n, d⟩, c.2)) 73 (0, 0)) := by
  obtain ⟨i1, i2, i3, i4⟩ := h
  rw [hc] at i1
  unfold cs4 at i1
  refine ⟨_, rfl, ?_⟩
  rw [r4_01 i1]
  generalize hT1 : setRow W _ _ = W1
  exact fin_x (b0 W) i1 hT1
end Go.Proofs.YtpimkigbdjfjoaaDoor
