/- A region that draws its order, with a tail that waits for all else (a call that writes): the head in one walk (Abs), the tail as a list. -/
import Derived.Test.YtmpfbkeamihjbaaGreatP3
import Derived.StillTail
set_option linter.unusedSimpArgs false
set_option linter.unusedVariables false
namespace Go.Proofs.YtmpfbkeamihjbaaGreat
open Go.RowKit
namespace Abs

section
variable {P : Program} {ops : Array Oper} {C : Cls}

/-- every operation from L on waits for every one before L -/
def tailB (ops : Array Oper) (L : Nat) : Bool := (List.range ops.size).all fun t => decide (t < L) || (List.range L).all fun i => reach ops t i
def okFromL (ops : Array Oper) (L : Nat) : List Nat → Array Bool → Bool
  | [], listed => Region.seqB .any ops (ops.size - L) L listed
  | i :: l, listed => decide (i < L) && (Region.ready .any ops listed).contains i && freeOf ops listed i && okFromL ops L l (listed.setIfInBounds i true)
def okL (ops : Array Oper) (ord : List Nat) (L : Nat) : Bool := Region.noSelect ops && tailB ops L && decide (L < ops.size) && okFromL ops L ord (Array.replicate ops.size false) && (ord.length == L)

def wpAnyT (P : Program) (ops : Array Oper) (C : Cls) (L : Nat) (Q : Act → St → Prop) : Nat → Array Bool → Act → St → Prop
  | 0, listed, a, s => Region.seqB .any ops (ops.size - L) L listed = true ∧ Q a s
  | n + 1, listed, a, s => Region.ready .any ops listed ≠ [] ∧ ∀ i ∈ Region.ready .any ops listed, i < L ∧ aOp P ops C i (wpAnyT P ops C L Q n (listed.setIfInBounds i true)) a s

theorem firstT {Q : Act → St → Prop} {L i : Nat} {oi : Oper} (hi : ops[i]? = some oi) (hiL : i < L) (hT : tailB ops L = true) (hsel : ∀ (j : Nat) (o : Oper) cs b, ops[j]? = some o → o.op ≠ .select cs b) :
    ∀ (n : Nat) (listed : Array Bool) (a : Act) (s : St), Closed ops listed →
      (∀ j oj, ops[j]? = some oj → j ≠ i → listed.getD j true = false → reach ops j i = true ∨ (oi.apart ops oj = true ∧ compat (kindOf oi) (kindOf oj) = true)) →
      i ∈ Region.ready .any ops listed → Good C s → aOp P ops C i (wpAnyT P ops C L Q n (listed.setIfInBounds i true)) a s → wpAnyT P ops C L Q (n + 1) listed a s := by
  intro n
  induction n with
  | zero =>
    intro listed a s hcl hfree hr hg H
    refine ⟨fun h => (by rw [h] at hr; cases hr), fun j hj => ?_⟩
    obtain ⟨hiun, oi', hoi', halli⟩ := mem_ready.1 hr
    obtain ⟨hjun, oj, hoj, hall⟩ := mem_ready.1 hj
    have nolist : ∀ k : Nat, listed.getD k true = false → listed.getD k false = true → False := fun k h0 h1 => by
      rcases Nat.lt_or_ge k listed.size with h' | h'
      · simp [h'] at h0 h1; rw [h0] at h1; cases h1
      · simp [Array.getElem?_eq_none h'] at h0
    have hjL : j < L := tail_no hT hcl nolist hiun hiL hoj hall
    by_cases hji : j = i
    · subst hji; exact ⟨hjL, H⟩
    · exfalso
      have h1 := ready_mono hj hji
      have key : Region.seqB .any ops (ops.size - L) L (listed.setIfInBounds i true) = true := by
        have hex : ∃ a' s', wpAnyT P ops C L Q 0 (listed.setIfInBounds i true) a' s' := by
          unfold aOp at H
          simp only [hi] at H
          obtain ⟨w, hw⟩ := hg.1
          rcases H with ⟨v, _, hK⟩ | ⟨h1, h2, h3, φ, h4, h5, h6⟩ | ⟨h1, h2, h3, f, obj, h4, h5⟩ | ⟨h1, h2, T, h3, h4⟩
          · exact ⟨_, _, hK hg⟩
          · obtain ⟨hJ, w0, hI, x1, x2, x3, x4⟩ := id hw
            have e := x4 h3
            subst e
            obtain ⟨v0, w', hr', hp⟩ := nonq_ex (h5 w hI (fun j _ => x1 j))
            exact ⟨_, _, h6 v0 ⟨⟨w', Good.setF hg h3 hw hr' hp⟩, Cl_upd hg.2.1 (h4 v0), hg.2.2⟩⟩
          · obtain ⟨hJ, w0, hI, x1, x2, x3, x4⟩ := id hw
            have e := x4 h3
            subst e
            have hB0 := C.hB w hI
            exact ⟨_, _, h5 w.heap.size hB0 (fun hu => Nat.lt_irrefl _ (x2 _ hu)) ⟨⟨_, Good.addA hg h3 hw⟩, Cl_upd hg.2.1 (Cl_block fun ht => Nat.lt_irrefl _ (Nat.lt_of_lt_of_le (C.low _ ht) hB0)), hg.2.2⟩⟩
          · obtain ⟨hJ, w0, hI, x1, x2, x3, x4⟩ := hw
            obtain ⟨_, q⟩ := h3 w0 hI x1 x2
            exact ⟨_, _, h4 ⟨⟨T w0, q (x3 ▸ hJ), w0, hI, x1, x2, rfl, fun e => by cases e⟩, hg.2.1, fun e => by cases e⟩⟩
        obtain ⟨_, _, h, _⟩ := hex
        exact h
      have := seqB_ready key j h1
      omega
  | succ n ih =>
    intro listed a s hcl hfree hr hg H
    refine ⟨fun h => (by rw [h] at hr; cases hr), fun j hj => ?_⟩
    obtain ⟨hiun, oi', hoi', halli⟩ := mem_ready.1 hr
    obtain ⟨hjun, oj, hoj, hall⟩ := mem_ready.1 hj
    have nolist : ∀ k : Nat, listed.getD k true = false → listed.getD k false = true → False := fun k h0 h1 => by
      rcases Nat.lt_or_ge k listed.size with h' | h'
      · simp [h'] at h0 h1; rw [h0] at h1; cases h1
      · simp [Array.getElem?_eq_none h'] at h0
    have hjL : j < L := tail_no hT hcl nolist hiun hiL hoj hall
    refine ⟨hjL, ?_⟩
    by_cases hji : j = i
    · subst hji; exact H
    · have hnot : reach ops j i = true → False := fun hre => nolist i hiun (reach_listed hcl j i oj hoj hall hre)
      obtain ⟨hap, hco⟩ := (hfree j oj hoj hji hjun).resolve_left hnot
      have hij : kindOf oj = .s → sunk ops i = false := fun hk => by
        cases hsu : sunk ops i
        · rfl
        · exact (hnot (sunk_spec hsu hoj hk)).elim
      have H1 : aOp P ops C i (fun a' s' => aOp P ops C j (wpAnyT P ops C L Q n ((listed.setIfInBounds i true).setIfInBounds j true)) a' s') a s :=
        aOp_mono P ops C (fun a' s' h => (h.2 j (ready_mono hj hji)).2) H
      have H2 := swap hi hoj hap hco (fun cs b => hsel i oi cs b hi) (fun cs b => hsel j oj cs b hoj) hij hg H1
      have hfree' : ∀ k ok, ops[k]? = some ok → k ≠ i → (listed.setIfInBounds j true).getD k true = false → reach ops k i = true ∨ (oi.apart ops ok = true ∧ compat (kindOf oi) (kindOf ok) = true) := fun k ok hk hki hun => by
        refine hfree k ok hk hki ?_
        by_cases hjk : j = k
        · subst hjk; exact hjun
        · rw [getD_set_ne true hjk] at hun; exact hun
      unfold aOp at H2 ⊢
      simp only [hoj] at H2 ⊢
      refine Does_mono P ops C (fun a' s' h3 hg' => ?_) H2
      refine ih (listed.setIfInBounds j true) a' s' (hcl.set hj) hfree' (ready_mono hr (Ne.symm hji)) hg' ?_
      rw [Array.setIfInBounds_comm _ _ hji]
      exact h3 hg'
where
  tail_no {ops : Array Oper} {L i j : Nat} {oj : Oper} {listed : Array Bool} (hT : tailB ops L = true) (hcl : Closed ops listed) (nolist : ∀ k : Nat, listed.getD k true = false → listed.getD k false = true → False)
      (hiun : listed.getD i true = false) (hiL : i < L) (hoj : ops[j]? = some oj) (hall : ∀ e ∈ oj.after, Region.binds .any e = true → listed.getD e.on false = true) : j < L := by
    rcases Nat.lt_or_ge j L with h | h
    · exact h
    · exfalso
      have hlt : j < ops.size := (Array.getElem?_eq_some_iff.1 hoj).1
      have h1 := List.all_eq_true.1 hT j (List.mem_range.2 hlt)
      simp only [Bool.or_eq_true, decide_eq_true_eq] at h1
      rcases h1 with h1 | h1
      · omega
      · exact nolist i hiun (reach_listed hcl j i oj hoj hall (List.all_eq_true.1 h1 i (List.mem_range.2 hiL)))

theorem anyT_of_ord {Q : Act → St → Prop} {L : Nat} (hT : tailB ops L = true) (hsel : ∀ (j : Nat) (o : Oper) cs b, ops[j]? = some o → o.op ≠ .select cs b) : ∀ (l : List Nat) (listed : Array Bool) (a : Act) (s : St), Closed ops listed → okFromL ops L l listed = true → Good C s →
    wpOrd P ops C Q l a s → wpAnyT P ops C L Q l.length listed a s
  | [], listed, a, s, _, hB, _, h => ⟨by simpa [okFromL] using hB, h⟩
  | i :: l, listed, a, s, hcl, hB, hg, h => by
    simp only [okFromL, Bool.and_eq_true, decide_eq_true_eq] at hB
    obtain ⟨⟨⟨hiL, hr⟩, hf⟩, hB'⟩ := hB
    have hr' : i ∈ Region.ready .any ops listed := by simpa using hr
    obtain ⟨_, oi, hoi, _⟩ := mem_ready.1 hr'
    refine firstT hoi hiL hT hsel l.length listed a s hcl (freeOf_spec hoi hf) hr' hg ?_
    have h' : aOp P ops C i (wpOrd P ops C Q l) a s := h
    unfold aOp at h' ⊢
    simp only [hoi] at h' ⊢
    exact Does_mono P ops C (fun a' s' h3 hg' => anyT_of_ord hT hsel l _ a' s' (hcl.set hr') hB' hg' (h3 hg')) h'

theorem wpAny_of_absT {Q : Act → St → Prop} {Q' : Exit → Act → World → Prop} {L : Nat} {tl : List Oper} (htl : ∀ j, tl[j]? = ops[L + j]?) (hlen : ops.size - L = tl.length)
    (hQ : ∀ a s w, Good C s → Sat C s w → Q a s → wpList P ops Q' tl a w) : ∀ (n : Nat) (listed : Array Bool) (a : Act) (s : St) (w : World), Good C s → Sat C s w →
    wpAnyT P ops C L Q n listed a s → wpAny P .any ops Q' (n + tl.length) listed a w
  | 0, listed, a, s, w, hg, hw, h => by
    rw [Nat.zero_add]
    refine wpAny_of_seq tl L listed a w htl ?_ (hQ _ _ _ hg hw h.2)
    rw [← hlen]; exact h.1
  | n + 1, listed, a, s, w, hg, hw, h => by
    rw [show n + 1 + tl.length = (n + tl.length) + 1 by omega]
    exact ⟨fun h0 => absurd h0 h.1, fun i hi => wpOp_of_aOp hg hw (fun a' s' w' hg' hw' hk => wpAny_of_absT htl hlen hQ n _ a' s' w' hg' hw' hk) (h.2 i hi).2⟩

/-- **THE HEAD IN ONE ORDER, THEN THE TAIL.** -/
theorem wp_region_tail {id : Nat} {Q : Exit → Act → World → Prop} {a : Act} {w : World} {l : List Oper} (C : Cls) (ord : List Nat) (L : Nat) (hm : P.follows .mixedOrders = true) (hB : okL l.toArray ord L = true) (hI : C.I w.drew)
    (h : wpOrd P l.toArray C (fun a s => ∀ w0, C.I w0 → (∀ j, s.F j w0) → (∀ k, s.U k → k < w0.heap.size) → C.J (s.T w0) → wpList P l.toArray Q (l.drop L) a (s.T w0)) ord a St.start) : (Code.region id l.toArray true).wp P Q a w := by
  simp only [okL, Bool.and_eq_true, beq_iff_eq, decide_eq_true_eq] at hB
  obtain ⟨⟨⟨⟨hs, hT⟩, hL⟩, hok⟩, hlen⟩ := hB
  have hgood : Good C St.start := ⟨⟨w.drew, C.IJ _ hI, w.drew, hI, fun _ => trivial, fun _ hk => hk.elim, rfl, fun _ => rfl⟩, fun _ _ _ h _ => h, fun _ _ => rfl⟩
  have hsat : Sat C St.start w.drew := ⟨C.IJ _ hI, w.drew, hI, fun _ => trivial, fun _ hk => hk.elim, rfl, fun _ => rfl⟩
  refine wp_region_any hm ?_
  have hL' : L < l.length := by simpa using hL
  have hsz : l.toArray.size = ord.length + (l.drop L).length := by simp; omega
  rw [hsz]
  refine wpAny_of_absT (C := C) (L := L) (Q := fun a s => ∀ w0, C.I w0 → (∀ j, s.F j w0) → (∀ k, s.U k → k < w0.heap.size) → C.J (s.T w0) → wpList P l.toArray Q (l.drop L) a (s.T w0)) (fun j => by simp) (by simp) (fun a s w _ hw hq => ?_) _ _ _ _ _ hgood hsat
    (anyT_of_ord hT (Region.noSelect_spec hs) ord _ a _ ?_ (by rw [← hsz]; exact hok) hgood h)
  · obtain ⟨hJ, w0, hI0, x1, x2, x3, _⟩ := hw
    subst x3
    exact hq w0 hI0 x1 x2 hJ
  · intro j oj _ hl
    rw [wp_region_abs.getD_replicate] at hl
    cases hl
end
end Abs
end Go.Proofs.YtmpfbkeamihjbaaGreat
