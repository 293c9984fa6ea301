/- (fit).takes at this program. -/
import Derived.Test.YtpimkigbdjfjoaaDoorSlide2
import Derived.Test.YtpimkigbdjfjoaaDoorPA
import Derived.Deep.RegionHeld3
import Derived.Deep.RegionLaw
import Derived.Deep.AppendLies
set_option linter.unusedSimpArgs false
set_option linter.unusedVariables false
namespace Go.Proofs.YtpimkigbdjfjoaaDoor
open Go.RowKit
attribute [local go_sem] Oper.semAt_some

def all4 : Array Value := #[.int .i64 (-4611688217450643456), .int .i64 1, .int .i64 4611688217450643456, .int .i64 1]
/-- the fit in memory -/
def fcs (s : Sl × Sl) (v : Value) : Array Value := #[.int .i64 s.1.n, .int .i64 s.1.d, .int .i64 s.2.n, .int .i64 s.2.d, v]

theorem OwnB.far {B g : Nat} {w : World} {v : Value} {l : List Bd} {cs : Array Value} {t : TypeId} (h : OwnB B w v l) (hg : w.heap[g]? = some (.cells cs t (0, 0))) (ht : t ≠ 37) : v.ownBlock ≠ some g := by
  rcases h.2 with ⟨rfl, _⟩ | ⟨g', cap, cur, rfl, _, hg', _⟩
  · simp [Value.ownBlock]
  · intro e
    obtain rfl : g' = g := by simpa [Value.ownBlock] using e
    rw [hg] at hg'
    injection hg' with hg'
    injection hg' with _ h2 _
    exact ht h2
theorem OwnB.new {B : Nat} {w : World} {v : Value} {l : List Bd} (h : OwnB B w v l) (g : Nat) (hg : w.heap.size ≤ g) : v.ownBlock ≠ some g := fun e => by
  have := (World.ownsRow.lt h g e).2
  omega
theorem OwnB.exc {B g : Nat} {w w1 : World} {v : Value} {l : List Bd} (h : OwnB B w v l) (hx : Exc g w w1) (hne : v.ownBlock ≠ some g) : OwnB B w1 v l :=
  World.ownsRow.kept h ⟨hx.low.os, hx.low.tape, hx.low.output, hx.size, fun k hk hn => hx.other k hk (fun e => hn (by rw [e]))⟩ (.inr hne)
theorem OwnB.turned {B D : Nat} {w w1 : World} {v : Value} {l : List Bd} (h : OwnB B w v l) (hx : Turned D w w1) (hne : v.ownBlock ≠ some D) : OwnB B w1 v l :=
  World.ownsRow.kept h ⟨hx.os, hx.tape, hx.output, Nat.le_of_eq hx.size.symm, fun k hk hn => hx.block k (fun e => hn (by rw [e]))⟩ (.inr hne)
theorem OwnB.nd {B D : Nat} {w : World} {v : Value} {l : List Bd} {x : Option (List Deferred)} (h : OwnB B w v l) (hD : w.heap[D]? = some (.deferred x)) : v.ownBlock ≠ some D := by
  rcases h.2 with ⟨rfl, _⟩ | ⟨g', cap, cur, rfl, _, hg', _⟩
  · simp [Value.ownBlock]
  · intro e
    obtain rfl : g' = D := by simpa [Value.ownBlock] using e
    rw [hD] at hg'
    cases hg'
theorem OwnB.drew {B : Nat} {w : World} {v : Value} {l : List Bd} (h : OwnB B w v l) : OwnB B w.drew v l := h

set_option maxRecDepth 100000 in
set_option maxHeartbeats 4000000 in
theorem slide_takes (g k B : Nat) (l : List Bd) (hok : okF (-1) l = true) (hl : l.length ≤ 256) (hk : k < l.length) (v : Value) (w : World)
    (hg : w.heap[g]? = some (.cells (fcs (sk l k) v) 78 (0, 0))) (ho : OwnB B w v (l.take k)) (hB : B ≤ g) :
    Calls Tryd.prog 95 #[.pointer (some ⟨g, 0, none⟩), .agg #[.int .i64 (bd l k).t, .int .i64 (bd l k).lo, .int .i64 (bd l k).hi]] w fun e w' => e = .returned (.bool (slOpen (sk l (k + 1)))) ∧ Below B w w' ∧ w.heap.size ≤ w'.heap.size ∧
      (slOpen (sk l (k + 1)) = true → ∃ v', w'.heap[g]? = some (.cells (fcs (sk l (k + 1)) v') 78 (0, 0)) ∧ OwnB B w' v' (l.take (k + 1))) ∧
      (slOpen (sk l (k + 1)) = false → w'.heap[g]? = some (.cells (fcs (sk l k) v) 78 (0, 0)) ∧ OwnB B w' v (l.take k)) := by
  have hBw : B ≤ w.heap.size := Nat.le_trans hB (Nat.le_of_lt (rcell hg).2.2)
  obtain ⟨A, c, rfl, hR⟩ := ho.br
  have hlen : (l.take k).length = k := by rw [List.length_take]; omega
  have rk := bd_rg hok k hk
  have hls := lets_seq (w.heap.size + 1 + 1) (w.heap.size + 1 + 1 + 1) g c A (l.take k) (bd l k) (.int .i64 (sk l k).1.n) (.int .i64 (sk l k).1.d) (.int .i64 (sk l k).2.n) (.int .i64 (sk l k).2.d) (by omega)
    (fun i hi => by
      rw [hlen] at hi
      rw [bd_take hi]
      have ri := bd_rg hok i (by omega)
      exact ⟨⟨ri.1, ri.2.1⟩, ri.2.2.2.1, ri.2.2.2.2⟩) ⟨rk.1, rk.2.1⟩ rk.2.2.2.1 rk.2.2.2.2
  have hfold : fold2 (sk l k) (upto (lt2 (l.take k) (bd l k)) (l.take k).length) = sk l (k + 1) := by
    have hv := lk_inv hok hk (sk_inv hok k (by omega))
    have hx : ∀ i, i ≤ k → lx (l.take k) (bd l k) (sk l k) i = lk l k (sk l k) i := fun i hi => by
      rw [lx_take l _ _ k i hi, lk_lx]
    rw [hlen, fold2_upto (l.take k) (bd l k) (sk l k) k (fun i hi => by rw [hx i hi]; exact ⟨(hv i hi).v1, (hv i hi).v2⟩)
      (fun i hi => by rw [bd_take hi]; exact ⟨lo2_is hok hi hk, hi2_is hok hi hk⟩) k (Nat.le_refl _), hx k (Nat.le_refl _), sk]
  have hsk1 := sk_inv hok (k + 1) (by omega)
  have hopen : slOpen (sk l (k + 1)) = !lessB (sk l (k + 1)).2 (sk l (k + 1)).1 := by rw [lessB_lt hsk1.v2 hsk1.v1]; rfl
  have htk : l.take (k + 1) = l.take k ++ [bd l k] := by rw [take_snoc l k hk, bd_eq hk]
  have hcap := hR.cap
  rw [hlen] at hg ho hls hcap hfold ⊢
  have hbox : okF (-1) l = true ∧ hok = hok := ⟨hok, rfl⟩
  generalize sk l (k + 1) = E at *
  generalize sk l k = s at *
  generalize bd l k = b at *
  generalize l.take (k + 1) = l1 at *
  generalize l.take k = l0 at *
  obtain ⟨⟨a0, a1⟩, a2, a3⟩ := s
  obtain ⟨bt, bl, bh⟩ := b
  have hg5 : w.heap[g]? = some (.cells #[.int .i64 a0, .int .i64 a1, .int .i64 a2, .int .i64 a3, .slice A k c] 78 (0, 0)) := hg
  obtain ⟨zg1, zg2, lg⟩ := rcell hg5
  simp only at hls rk
  have HT := hide htk
  have HO := hide ho
  have HR := hide hR
  have HF := hide hfold
  have HS := hide hsk1
  have HQ := hide hopen
  have HL := hide hlen
  clear htk ho hR hfold hsk1 hopen hlen hbox hok
  refine calls_of_wp_marks Tryd.func95 rfl ?_
  simp only [Tryd.ntmps95, List.size_toArray, List.length_cons, List.length_nil, Nat.reduceAdd, Nat.reduceSub, Array.replicate_succ, Array.replicate_zero, List.push_toArray, List.append_toArray, List.nil_append, List.cons_append]
  go_wp2_with fail
  refine (slide_lets _ _ _ _ _).mono ?_
  rintro e w' ⟨rfl, rfl⟩
  go_wp2_with fail
  generalize hW0 : (((w.alloc (.cells #[.int .i64 bt, .int .i64 bl, .int .i64 bh] 37)).alloc (.cells #[.int .i64 a0, .int .i64 a1, .int .i64 a2, .int .i64 a3] 73)).alloc (.cells #[.pointer (some ⟨g, 0, none⟩)] 76)).alloc (.cells #[.int .i64 bt, .int .i64 bl, .int .i64 bh] 37) = W0
  have hs0 : W0.heap.size = w.heap.size + 4 := by rw [← hW0]; simp
  have hI0 : tkI w ⟨bt, bl, bh⟩ (⟨a0, a1⟩, ⟨a2, a3⟩) [] W0 := by
    rw [← hW0]
    exact ⟨ka (ka (na1 w _ _ _) _) _, ka (ka (ka (na w _ _) _) _) _, na3 w _ _ _ _ _, bA (bA (bA (bA (b0 w) _) _) _) _⟩
  have hP0 : W0.heap[w.heap.size + 1 + 1]? = some (.cells #[.pointer (some ⟨g, 0, none⟩)] 76 (0, 0)) := by
    rw [← hW0]; exact ka (na2 w _ _ _ _) _
  have hG0 : W0.heap[g]? = some (.cells #[.int .i64 a0, .int .i64 a1, .int .i64 a2, .int .i64 a3, .slice A k c] 78 (0, 0)) := by
    rw [← hW0]; exact ka (ka (ka (ka hg5 _) _) _) _
  clear hW0 zg1 zg2
  refine wp_rangeFunc_seq rfl (enters_of Tryd.func128 (by kernel_rfl) rfl) (hls W0 hP0 hG0) (fun _ => rfl)
    (tkI w ⟨bt, bl, bh⟩ (⟨a0, a1⟩, ⟨a2, a3⟩)) (fun _ _ _ => False) (fun s X Y h hb => h.keep (by omega) hb) (fun _ _ _ _ h _ => h.elim) (fun s X h => ⟨HR.out.below h.2.2.2, h.2.2.1⟩) hI0 ?round ?done ?stop
  case stop => exact fun _ _ _ _ _ _ h _ => h.elim
  case round =>
    rintro l' pre ⟨⟨x0, x1⟩, x2, x3⟩ W K hl1 hl2 hi hlen hK
    have e1 : encS (⟨x0, x1⟩, ⟨x2, x3⟩) = #[.agg #[.int .i64 x0, .int .i64 x1, .int .i64 x2, .int .i64 x3]] := rfl
    rw [e1]
    gi_wp2
    refine hK _ _ (bA (b0 _) _) ?_
    clear hK
    intro W₂ hT
    have hi2 : tkI w ⟨bt, bl, bh⟩ (⟨a0, a1⟩, ⟨a2, a3⟩) pre W₂ := (hi.keep (B := W.heap.size) (by omega) (bA (b0 W) _)).keep (B := w.heap.size + 4) (Nat.le_refl _) (hT.low (by omega))
    have hbx := kt hT (na W #[.int .i64 x0, .int .i64 x1, .int .i64 x2, .int .i64 x3] 73) (by omega)
    obtain ⟨i1, i2, i3, i4⟩ := hi2
    have hsx := fold2_snoc (⟨a0, a1⟩, ⟨a2, a3⟩) pre (⟨x0, x1⟩, ⟨x2, x3⟩)
    have HFIN : Hid (∀ X : World, X.heap[w.heap.size + 1]? = some (.cells (cs4 (st2 (fold2 (⟨a0, a1⟩, ⟨a2, a3⟩) pre) (⟨x0, x1⟩, ⟨x2, x3⟩))) 73 (0, 0)) → X.heap[w.heap.size]? = some (.cells #[.int .i64 bt, .int .i64 bl, .int .i64 bh] 37 (0, 0)) →
        X.heap[w.heap.size + 1 + 1 + 1]? = some (.cells #[.int .i64 bt, .int .i64 bl, .int .i64 bh] 37 (0, 0)) → Below w.heap.size w X → tkI w ⟨bt, bl, bh⟩ (⟨a0, a1⟩, ⟨a2, a3⟩) (pre ++ [(⟨x0, x1⟩, ⟨x2, x3⟩)]) X) := hide fun X a b c d => ⟨by rw [hsx]; exact a, b, c, d⟩
    clear hi hsx hlen
    generalize fold2 (⟨a0, a1⟩, ⟨a2, a3⟩) pre = s at i1 HFIN
    obtain ⟨⟨n0, d0⟩, n1, d1⟩ := s
    have i1' : W₂.heap[w.heap.size + 1]? = some (.cells #[.int .i64 n0, .int .i64 d0, .int .i64 n1, .int .i64 d1] 73 (0, 0)) := i1
    clear i1
    have cl := fun w => slide_less_all n0 d0 x0 x1 w
    have cm := fun w => slide_less_all x2 x3 n1 d1 w
    have hst : st2 (⟨n0, d0⟩, ⟨n1, d1⟩) (⟨x0, x1⟩, ⟨x2, x3⟩) = (if lessB ⟨n0, d0⟩ ⟨x0, x1⟩ = true then ⟨x0, x1⟩ else ⟨n0, d0⟩, if lessB ⟨x2, x3⟩ ⟨n1, d1⟩ = true then ⟨x2, x3⟩ else ⟨n1, d1⟩) := rfl
    rw [hst] at HFIN
    clear hst
    have sz2 : W₂.heap.size = W.heap.size + 1 := by rw [hT.size, World.size_alloc]
    clear hT hls hP0 hG0 hI0 hg5 hg
    obtain ⟨zi1, zi2, zi3⟩ := rcell i1'
    obtain ⟨zx1, zx2, zx3⟩ := rcell hbx
    generalize lessB ⟨n0, d0⟩ ⟨x0, x1⟩ = q1 at *
    generalize lessB ⟨x2, x3⟩ ⟨n1, d1⟩ = q2 at *
    cases q1
    · cases q2
      · gi_wp2
        refine ⟨trivial, (callsIn_wide.2 (cl _)).mono ?_⟩
        rintro e w1 ⟨rfl, hb1⟩
        have n1' := kp hb1 i1'
        have x1' := kp hb1 hbx
        have b1' := kp hb1 i2
        have p1' := kp hb1 i3
        have B1 := bB i4 hb1
        have U1 : Upper W0.heap.size W₂ w1 := Upper.of_below hb1
        clear zi1 zi2 zi3 zx1 zx2 zx3
        obtain ⟨zi1, zi2, zi3⟩ := rcell n1'
        obtain ⟨zx1, zx2, zx3⟩ := rcell x1'
        gi_wp2
        refine ⟨trivial, (callsIn_wide.2 (cm _)).mono ?_⟩
        rintro e w3 ⟨rfl, hb3⟩
        have n3' := kp hb3 n1'
        have x3' := kp hb3 x1'
        have b3' := kp hb3 b1'
        have p3' := kp hb3 p1'
        have B3 := bB B1 hb3
        have U3 : Upper W0.heap.size W₂ w3 := U1.trans (Upper.of_below hb3)
        clear zi1 zi2 zi3 zx1 zx2 zx3
        obtain ⟨zi1, zi2, zi3⟩ := rcell n3'
        obtain ⟨zx1, zx2, zx3⟩ := rcell x3'
        gi_wp2
        exact ⟨U3, HFIN.out _ n3' b3' p3' B3⟩
      · gi_wp2
        refine ⟨trivial, (callsIn_wide.2 (cl _)).mono ?_⟩
        rintro e w1 ⟨rfl, hb1⟩
        have n1' := kp hb1 i1'
        have x1' := kp hb1 hbx
        have b1' := kp hb1 i2
        have p1' := kp hb1 i3
        have B1 := bB i4 hb1
        have U1 : Upper W0.heap.size W₂ w1 := Upper.of_below hb1
        clear zi1 zi2 zi3 zx1 zx2 zx3
        obtain ⟨zi1, zi2, zi3⟩ := rcell n1'
        obtain ⟨zx1, zx2, zx3⟩ := rcell x1'
        gi_wp2
        refine ⟨trivial, (callsIn_wide.2 (cm _)).mono ?_⟩
        rintro e w3 ⟨rfl, hb3⟩
        have n3' := kp hb3 n1'
        have x3' := kp hb3 x1'
        have b3' := kp hb3 b1'
        have p3' := kp hb3 p1'
        have B3 := bB B1 hb3
        have U3 : Upper W0.heap.size W₂ w3 := U1.trans (Upper.of_below hb3)
        clear zi1 zi2 zi3 zx1 zx2 zx3
        obtain ⟨zi1, zi2, zi3⟩ := rcell n3'
        obtain ⟨zx1, zx2, zx3⟩ := rcell x3'
        gi_wp2
        rw [r4_23 n3']
        generalize hT4 : setRow _ _ _ = w4
        obtain ⟨hx4, n4'⟩ := fin_x (b0 w3) n3' hT4
        exact ⟨U3.trans (Upper.exc hx4 (by omega)), HFIN.out _ n4' (kx hx4 b3' (by omega)) (kx hx4 p3' (by omega)) (bX B3 hx4 (by omega))⟩
    · cases q2
      · gi_wp2
        refine ⟨trivial, (callsIn_wide.2 (cl _)).mono ?_⟩
        rintro e w1 ⟨rfl, hb1⟩
        have n1' := kp hb1 i1'
        have x1' := kp hb1 hbx
        have b1' := kp hb1 i2
        have p1' := kp hb1 i3
        have B1 := bB i4 hb1
        have U1 : Upper W0.heap.size W₂ w1 := Upper.of_below hb1
        clear zi1 zi2 zi3 zx1 zx2 zx3
        obtain ⟨zi1, zi2, zi3⟩ := rcell n1'
        obtain ⟨zx1, zx2, zx3⟩ := rcell x1'
        gi_wp2
        rw [r4_01 n1']
        generalize hT1 : setRow _ _ _ = w2
        obtain ⟨hx2, n2'⟩ := fin_x (b0 w1) n1' hT1
        have x2' := kx hx2 x1' (by omega)
        have b2' := kx hx2 b1' (by omega)
        have p2' := kx hx2 p1' (by omega)
        have B2 := bX B1 hx2 (by omega)
        have U2 : Upper W0.heap.size W₂ w2 := U1.trans (Upper.exc hx2 (by omega))
        clear zi1 zi2 zi3 zx1 zx2 zx3
        obtain ⟨zi1, zi2, zi3⟩ := rcell n2'
        obtain ⟨zx1, zx2, zx3⟩ := rcell x2'
        refine ⟨trivial, (callsIn_wide.2 (cm _)).mono ?_⟩
        rintro e w3 ⟨rfl, hb3⟩
        have n3' := kp hb3 n2'
        have x3' := kp hb3 x2'
        have b3' := kp hb3 b2'
        have p3' := kp hb3 p2'
        have B3 := bB B2 hb3
        have U3 : Upper W0.heap.size W₂ w3 := U2.trans (Upper.of_below hb3)
        clear zi1 zi2 zi3 zx1 zx2 zx3
        obtain ⟨zi1, zi2, zi3⟩ := rcell n3'
        obtain ⟨zx1, zx2, zx3⟩ := rcell x3'
        gi_wp2
        exact ⟨U3, HFIN.out _ n3' b3' p3' B3⟩
      · gi_wp2
        refine ⟨trivial, (callsIn_wide.2 (cl _)).mono ?_⟩
        rintro e w1 ⟨rfl, hb1⟩
        have n1' := kp hb1 i1'
        have x1' := kp hb1 hbx
        have b1' := kp hb1 i2
        have p1' := kp hb1 i3
        have B1 := bB i4 hb1
        have U1 : Upper W0.heap.size W₂ w1 := Upper.of_below hb1
        clear zi1 zi2 zi3 zx1 zx2 zx3
        obtain ⟨zi1, zi2, zi3⟩ := rcell n1'
        obtain ⟨zx1, zx2, zx3⟩ := rcell x1'
        gi_wp2
        rw [r4_01 n1']
        generalize hT1 : setRow _ _ _ = w2
        obtain ⟨hx2, n2'⟩ := fin_x (b0 w1) n1' hT1
        have x2' := kx hx2 x1' (by omega)
        have b2' := kx hx2 b1' (by omega)
        have p2' := kx hx2 p1' (by omega)
        have B2 := bX B1 hx2 (by omega)
        have U2 : Upper W0.heap.size W₂ w2 := U1.trans (Upper.exc hx2 (by omega))
        clear zi1 zi2 zi3 zx1 zx2 zx3
        obtain ⟨zi1, zi2, zi3⟩ := rcell n2'
        obtain ⟨zx1, zx2, zx3⟩ := rcell x2'
        refine ⟨trivial, (callsIn_wide.2 (cm _)).mono ?_⟩
        rintro e w3 ⟨rfl, hb3⟩
        have n3' := kp hb3 n2'
        have x3' := kp hb3 x2'
        have b3' := kp hb3 b2'
        have p3' := kp hb3 p2'
        have B3 := bB B2 hb3
        have U3 : Upper W0.heap.size W₂ w3 := U2.trans (Upper.of_below hb3)
        clear zi1 zi2 zi3 zx1 zx2 zx3
        obtain ⟨zi1, zi2, zi3⟩ := rcell n3'
        obtain ⟨zx1, zx2, zx3⟩ := rcell x3'
        gi_wp2
        rw [r4_23 n3']
        generalize hT4 : setRow _ _ _ = w4
        obtain ⟨hx4, n4'⟩ := fin_x (b0 w3) n3' hT4
        exact ⟨U3.trans (Upper.exc hx4 (by omega)), HFIN.out _ n4' (kx hx4 b3' (by omega)) (kx hx4 p3' (by omega)) (bX B3 hx4 (by omega))⟩
  case done =>
    rintro D xs W hD rfl hi hK
    obtain ⟨i1, i2, i3, i4⟩ := hi
    rw [HF.out] at i1
    obtain ⟨⟨n0, d0⟩, n1, d1⟩ := E
    have i1' : W.heap[w.heap.size + 1]? = some (.cells #[.int .i64 n0, .int .i64 d0, .int .i64 n1, .int .i64 d1] 73 (0, 0)) := i1
    have HG := hide hg
    clear i1 hls hP0 hG0 hI0 hg
    have cl := fun w => slide_less_all n1 d1 n0 d0 w
    have HQ2 : Hid (slOpen (⟨n0, d0⟩, ⟨n1, d1⟩) = !lessB ⟨n1, d1⟩ ⟨n0, d0⟩) := HQ
    clear HQ
    generalize lessB ⟨n1, d1⟩ ⟨n0, d0⟩ = q at *
    have lD := (Array.getElem?_eq_some_iff.1 hK).1
    obtain ⟨zi1, zi2, zi3⟩ := rcell i1'
    obtain ⟨zb1, zb2, zb3⟩ := rcell i2
    cases q
    · have hop : Hid (slOpen (⟨n0, d0⟩, ⟨n1, d1⟩) = true) := HQ2
      clear HQ2
      go_wp2_with fail
      refine (cl _).mono ?_
      rintro e w1 ⟨rfl, hb1⟩
      have n1' := kp hb1 i1'
      have b1' := kp hb1 i2
      have g1' := kp (bB i4 hb1) hg5
      have B1 := bB i4 hb1
      have K1 := (hb1.block D lD).trans hK
      have lD1 := Nat.lt_of_lt_of_le lD hb1.size
      have HO1 := hide (HO.out.lift B1)
      clear cl zi1 zi2 zi3 zb1 zb2 zb3
      obtain ⟨zi1, zi2, zi3⟩ := rcell n1'
      obtain ⟨zb1, zb2, zb3⟩ := rcell b1'
      obtain ⟨zg1, zg2, zg3⟩ := rcell g1'
      go_wp2_with fail
      obtain ⟨i0, hi0, hz0, hz1, hz2⟩ := info_parts band_info
      have ag := HO1.out.far g1' (by decide)
      have ab := HO.out.new w.heap.size (Nat.le_refl _)
      have an := HO.out.new (w.heap.size + 1) (by omega)
      have lw1 : w.heap.size + 1 < w1.heap.size := zi3
      have hl0 : l0.length = k := HL.out
      have lg1 : g < w1.heap.size := zg3
      refine wp_region_noPanic ?_
      go_region_law
        ((refine step_append_lies _ (by rfl) _ _ _ (by rfl) B 37 i0 _ 3 24 Tryd.underlying22 hi0 hz0 hz1 hz2 rfl (by omega) (.slice A k c) l0.length (bvals l0) (by rfl) (((HO1.out.lift (bA (b0 _) _)) : OwnB B _ _ _).drew)
            ⟨w1.heap.size, 0, none⟩ 1 1 [.int .i64 bt, .int .i64 bl, .int .i64 bh] (by rfl) (by rfl) (World.news_of_block (cs := #[.int .i64 bt, .int .i64 bl, .int .i64 bh]) (t := 37) (fr := (0, 0)) (heap_alloc_new w1 _)) (by simp [Value.oneCell'])
            (by omega) (by simp only [maxLen]; omega) (by omega) (by simp; omega) (w1.heap.size + 1) (by simp) ?_; intro gg cap w2 hown1 hgrow hat hlt; have g2' : w2.heap[g]? = some (.cells #[.int .i64 a0, .int .i64 a1, .int .i64 a2, .int .i64 a3, .slice A k c] 78 (0, 0)) := (hgrow.block g (by simp; omega) (Ne.symm ag)).trans (ka g1' _); obtain ⟨zh1, zh2, zh3⟩ := rcell g2'; have n2' : w2.heap[w.heap.size + 1]? = some (.cells #[.int .i64 n0, .int .i64 d0, .int .i64 n1, .int .i64 d1] 73 (0, 0)) := (hgrow.block _ (by simp; omega) (Ne.symm an)).trans (ka n1' _); obtain ⟨zk1, zk2, zk3⟩ := rcell n2'))
      all_goals refine NoPanic.normal ?_
      all_goals
        have hBz : Below B w ((w1.alloc (.cells #[.int .i64 bt, .int .i64 bl, .int .i64 bh] 37)).drew) := ((B1.mono hBw).alloc (by have := B1.size; omega) _).drew
        have h2b : Below B w w2 := hBz.grown hgrow (by simp; have := B1.size; omega) (OwnB.lt HO1.out)
        have hgs := hgrow.size
        have hgs' : w1.heap.size + 1 ≤ w2.heap.size := by
          have : ((w1.alloc (.cells #[.int .i64 bt, .int .i64 bl, .int .i64 bh] 37)).drew).heap.size = w1.heap.size + 1 := World.size_alloc _ _
          omega
        have K2 : w2.heap[D]? = some (.deferred (some [])) := (hgrow.block D (by show D < (w1.alloc _).heap.size; rw [World.size_alloc]; omega) (Ne.symm (HO.out.new D (by omega)))).trans (((bA (b0 w1) (.cells #[.int .i64 bt, .int .i64 bl, .int .i64 bh] 37)).block D lD1).trans K1)
        have K2x := K2
        rw [hl0] at hown1
        have ho2 : OwnB B w2 (.slice (some ⟨gg, 0, none⟩) (k + 1) cap) l1 := by
          rw [HT.out]
          unfold OwnB
          rw [List.length_append, bvals_append, hl0]
          exact hown1
        have hf2 := ho2.far g2' (by decide)
        rw [r5_4 g2']
        generalize hT3 : setRow w2 _ _ = w3
        obtain ⟨hx3, g3'⟩ := fin_x (b0 w2) g2' hT3
        rw [r5_1 g3']
        generalize hT4 : setRow w3 _ _ = w4
        obtain ⟨hx4, g4'⟩ := fin_x (b0 w3) g3' hT4
        have ho4 := (ho2.exc hx3 hf2).exc hx4 hf2
        have h4b : Below B w w4 := (h2b.trans (hx3.low.mono hB)).trans (hx4.low.mono hB)
        have K3 := (hx3.other D (by omega) (by omega)).trans K2
        have K4 := (hx4.other D (by have := hx3.size; omega) (by omega)).trans K3
        have sz4 : w.heap.size ≤ w4.heap.size := by
          have := hx3.size
          have := hx4.size
          have := B1.size
          omega
        clear hT3 hT4 hx3 hx4 g3' g2' zh1 zh2 zh3 n2' zk1 zk2 zk3 hgrow hown1 hat hlt zi1 zi2 zi3 zb1 zb2 zb3 zg1 zg2 zg3 g1' n1' b1' K1 K2 K3
        go_wp2_with fail
        have hp := turned_put w4 D (.deferred none)
        refine marks_ret rfl K4 (v := .bool true) (by simp [results, Tryd.results95, go_sem]; try rfl) ⟨by rw [hop.out], h4b.trans (hp.low (by omega)), by rw [hp.size]; exact sz4, fun _ => ⟨_, kt hp g4' (by omega), ho4.turned hp (ho2.nd K2x)⟩, fun (h : slOpen (⟨n0, d0⟩, ⟨n1, d1⟩) = false) => Bool.noConfusion (h.symm.trans hop.out)⟩
    · have hop : Hid (slOpen (⟨n0, d0⟩, ⟨n1, d1⟩) = false) := HQ2
      clear HQ2
      go_wp2_with fail
      refine (cl _).mono ?_
      rintro e w1 ⟨rfl, hb1⟩
      have K1 := (hb1.block D lD).trans hK
      have lD1 := Nat.lt_of_lt_of_le lD hb1.size
      have B1 := bB i4 hb1
      clear cl zi1 zi2 zi3 zb1 zb2 zb3
      go_wp2_with fail
      have hp := turned_put w1 D (.deferred none)
      have B2 : Below w.heap.size w (w1.putObj D (.deferred none)) := B1.trans (hp.low (by omega))
      refine marks_ret rfl K1 (v := .bool false) (by simp [results, Tryd.results95, go_sem]; try rfl) ⟨by rw [hop.out], B2.mono hBw, B2.size, fun (h : slOpen (⟨n0, d0⟩, ⟨n1, d1⟩) = true) => Bool.noConfusion (h.symm.trans hop.out), fun _ => ⟨kp B2 HG.out, HO.out.lift B2⟩⟩
end Go.Proofs.YtpimkigbdjfjoaaDoor
