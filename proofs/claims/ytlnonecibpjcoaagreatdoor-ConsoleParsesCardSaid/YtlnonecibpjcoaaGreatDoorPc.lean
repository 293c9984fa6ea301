/- A region that draws its order, with a tail that waits for all else (a call that writes): the head in one walk (Abs), the tail as a list. The document's answer for the console at this program: crash. The document's answer for the console at this program: buckets. -/
import Derived.Test.YtlnonecibpjcoaaGreatDoorAb
import Derived.StillTail
import Derived.Test.YtlnonecibpjcoaaGreatDoorPb
set_option linter.unusedSimpArgs false
set_option linter.unnecessarySimpa false
set_option linter.unusedVariables false
set_option linter.unusedSectionVars false
namespace Go.Proofs.YtlnonecibpjcoaaGreatDoor
open Go.RowKit
namespace Abs

section
variable {P : Program} {ops : Array Oper} {C : Cls}

/-- every operation from L on waits for every one before L -/
def tailB (ops : Array Oper) (L : Nat) : Bool := (List.range ops.size).all fun t => decide (t < L) || (List.range L).all fun i => reach ops t i
def okFromL (ops : Array Oper) (L : Nat) : List Nat → Array Bool → Bool
  | [], listed => Region.seqB .any ops (ops.size - L) L listed
  | i :: l, listed => decide (i < L) && (Region.ready .any ops listed).contains i && freeOf ops listed i && okFromL ops L l (listed.setIfInBounds i true)
def okL (ops : Array Oper) (ord : List Nat) (L : Nat) : Bool := Region.noSelect ops && tailB ops L && decide (L < ops.size) && okFromL ops L ord (Array.replicate ops.size false) && (ord.length == L)

def wpAnyT (P : Program) (ops : Array Oper) (C : Cls) (L : Nat) (Q : Act → St → Prop) : Nat → Array Bool → Act → St → Prop
  | 0, listed, a, s => Region.seqB .any ops (ops.size - L) L listed = true ∧ Q a s
  | n + 1, listed, a, s => Region.ready .any ops listed ≠ [] ∧ ∀ i ∈ Region.ready .any ops listed, i < L ∧ aOp P ops C i (wpAnyT P ops C L Q n (listed.setIfInBounds i true)) a s

theorem firstT {Q : Act → St → Prop} {L i : Nat} {oi : Oper} (hi : ops[i]? = some oi) (hiL : i < L) (hT : tailB ops L = true) (hsel : ∀ (j : Nat) (o : Oper) cs b, ops[j]? = some o → o.op ≠ .select cs b) :
    ∀ (n : Nat) (listed : Array Bool) (a : Act) (s : St), Closed ops listed →
      (∀ j oj, ops[j]? = some oj → j ≠ i → listed.getD j true = false → reach ops j i = true ∨ (oi.apart ops oj = true ∧ compat (kindOf oi) (kindOf oj) = true)) →
      i ∈ Region.ready .any ops listed → Good C s → aOp P ops C i (wpAnyT P ops C L Q n (listed.setIfInBounds i true)) a s → wpAnyT P ops C L Q (n + 1) listed a s := by
  intro n
  induction n with
  | zero =>
    intro listed a s hcl hfree hr hg H
    refine ⟨fun h => (by rw [h] at hr; cases hr), fun j hj => ?_⟩
    obtain ⟨hiun, oi', hoi', halli⟩ := mem_ready.1 hr
    obtain ⟨hjun, oj, hoj, hall⟩ := mem_ready.1 hj
    have nolist : ∀ k : Nat, listed.getD k true = false → listed.getD k false = true → False := fun k h0 h1 => by
      rcases Nat.lt_or_ge k listed.size with h' | h'
      · simp [h'] at h0 h1; rw [h0] at h1; cases h1
      · simp [Array.getElem?_eq_none h'] at h0
    have hjL : j < L := tail_no hT hcl nolist hiun hiL hoj hall
    by_cases hji : j = i
    · subst hji; exact ⟨hjL, H⟩
    · exfalso
      have h1 := ready_mono hj hji
      have key : Region.seqB .any ops (ops.size - L) L (listed.setIfInBounds i true) = true := by
        have hex : ∃ a' s', wpAnyT P ops C L Q 0 (listed.setIfInBounds i true) a' s' := by
          unfold aOp at H
          simp only [hi] at H
          obtain ⟨w, hw⟩ := hg.1
          rcases H with ⟨v, _, hK⟩ | ⟨h1, h2, h3, φ, h4, h5, h6⟩ | ⟨h1, h2, h3, f, obj, h4, h5⟩ | ⟨h1, h2, T, h3, h4⟩
          · exact ⟨_, _, hK hg⟩
          · obtain ⟨hJ, w0, hI, x1, x2, x3, x4⟩ := id hw
            have e := x4 h3
            subst e
            obtain ⟨v0, w', hr', hp⟩ := nonq_ex (h5 w hI (fun j _ => x1 j))
            exact ⟨_, _, h6 v0 ⟨⟨w', Good.setF hg h3 hw hr' hp⟩, Cl_upd hg.2.1 (h4 v0), hg.2.2⟩⟩
          · obtain ⟨hJ, w0, hI, x1, x2, x3, x4⟩ := id hw
            have e := x4 h3
            subst e
            have hB0 := C.hB w hI
            exact ⟨_, _, h5 w.heap.size hB0 (fun hu => Nat.lt_irrefl _ (x2 _ hu)) ⟨⟨_, Good.addA hg h3 hw⟩, Cl_upd hg.2.1 (Cl_block fun ht => Nat.lt_irrefl _ (Nat.lt_of_lt_of_le (C.low _ ht) hB0)), hg.2.2⟩⟩
          · obtain ⟨hJ, w0, hI, x1, x2, x3, x4⟩ := hw
            obtain ⟨_, q⟩ := h3 w0 hI x1 x2
            exact ⟨_, _, h4 ⟨⟨T w0, q (x3 ▸ hJ), w0, hI, x1, x2, rfl, fun e => by cases e⟩, hg.2.1, fun e => by cases e⟩⟩
        obtain ⟨_, _, h, _⟩ := hex
        exact h
      have := seqB_ready key j h1
      omega
  | succ n ih =>
    intro listed a s hcl hfree hr hg H
    refine ⟨fun h => (by rw [h] at hr; cases hr), fun j hj => ?_⟩
    obtain ⟨hiun, oi', hoi', halli⟩ := mem_ready.1 hr
    obtain ⟨hjun, oj, hoj, hall⟩ := mem_ready.1 hj
    have nolist : ∀ k : Nat, listed.getD k true = false → listed.getD k false = true → False := fun k h0 h1 => by
      rcases Nat.lt_or_ge k listed.size with h' | h'
      · simp [h'] at h0 h1; rw [h0] at h1; cases h1
      · simp [Array.getElem?_eq_none h'] at h0
    have hjL : j < L := tail_no hT hcl nolist hiun hiL hoj hall
    refine ⟨hjL, ?_⟩
    by_cases hji : j = i
    · subst hji; exact H
    · have hnot : reach ops j i = true → False := fun hre => nolist i hiun (reach_listed hcl j i oj hoj hall hre)
      obtain ⟨hap, hco⟩ := (hfree j oj hoj hji hjun).resolve_left hnot
      have hij : kindOf oj = .s → sunk ops i = false := fun hk => by
        cases hsu : sunk ops i
        · rfl
        · exact (hnot (sunk_spec hsu hoj hk)).elim
      have H1 : aOp P ops C i (fun a' s' => aOp P ops C j (wpAnyT P ops C L Q n ((listed.setIfInBounds i true).setIfInBounds j true)) a' s') a s :=
        aOp_mono P ops C (fun a' s' h => (h.2 j (ready_mono hj hji)).2) H
      have H2 := swap hi hoj hap hco (fun cs b => hsel i oi cs b hi) (fun cs b => hsel j oj cs b hoj) hij hg H1
      have hfree' : ∀ k ok, ops[k]? = some ok → k ≠ i → (listed.setIfInBounds j true).getD k true = false → reach ops k i = true ∨ (oi.apart ops ok = true ∧ compat (kindOf oi) (kindOf ok) = true) := fun k ok hk hki hun => by
        refine hfree k ok hk hki ?_
        by_cases hjk : j = k
        · subst hjk; exact hjun
        · rw [getD_set_ne true hjk] at hun; exact hun
      unfold aOp at H2 ⊢
      simp only [hoj] at H2 ⊢
      refine Does_mono P ops C (fun a' s' h3 hg' => ?_) H2
      refine ih (listed.setIfInBounds j true) a' s' (hcl.set hj) hfree' (ready_mono hr (Ne.symm hji)) hg' ?_
      rw [Array.setIfInBounds_comm _ _ hji]
      exact h3 hg'
  where
  tail_no {ops : Array Oper} {L i j : Nat} {oj : Oper} {listed : Array Bool} (hT : tailB ops L = true) (hcl : Closed ops listed) (nolist : ∀ k : Nat, listed.getD k true = false → listed.getD k false = true → False)
      (hiun : listed.getD i true = false) (hiL : i < L) (hoj : ops[j]? = some oj) (hall : ∀ e ∈ oj.after, Region.binds .any e = true → listed.getD e.on false = true) : j < L := by
    rcases Nat.lt_or_ge j L with h | h
    · exact h
    · exfalso
      have hlt : j < ops.size := (Array.getElem?_eq_some_iff.1 hoj).1
      have h1 := List.all_eq_true.1 hT j (List.mem_range.2 hlt)
      simp only [Bool.or_eq_true, decide_eq_true_eq] at h1
      rcases h1 with h1 | h1
      · omega
      · exact nolist i hiun (reach_listed hcl j i oj hoj hall (List.all_eq_true.1 h1 i (List.mem_range.2 hiL)))

theorem anyT_of_ord {Q : Act → St → Prop} {L : Nat} (hT : tailB ops L = true) (hsel : ∀ (j : Nat) (o : Oper) cs b, ops[j]? = some o → o.op ≠ .select cs b) : ∀ (l : List Nat) (listed : Array Bool) (a : Act) (s : St), Closed ops listed → okFromL ops L l listed = true → Good C s →
    wpOrd P ops C Q l a s → wpAnyT P ops C L Q l.length listed a s
  | [], listed, a, s, _, hB, _, h => ⟨by simpa [okFromL] using hB, h⟩
  | i :: l, listed, a, s, hcl, hB, hg, h => by
    simp only [okFromL, Bool.and_eq_true, decide_eq_true_eq] at hB
    obtain ⟨⟨⟨hiL, hr⟩, hf⟩, hB'⟩ := hB
    have hr' : i ∈ Region.ready .any ops listed := by simpa using hr
    obtain ⟨_, oi, hoi, _⟩ := mem_ready.1 hr'
    refine firstT hoi hiL hT hsel l.length listed a s hcl (freeOf_spec hoi hf) hr' hg ?_
    have h' : aOp P ops C i (wpOrd P ops C Q l) a s := h
    unfold aOp at h' ⊢
    simp only [hoi] at h' ⊢
    exact Does_mono P ops C (fun a' s' h3 hg' => anyT_of_ord hT hsel l _ a' s' (hcl.set hr') hB' hg' (h3 hg')) h'

theorem wpAny_of_absT {Q : Act → St → Prop} {Q' : Exit → Act → World → Prop} {L : Nat} {tl : List Oper} (htl : ∀ j, tl[j]? = ops[L + j]?) (hlen : ops.size - L = tl.length)
    (hQ : ∀ a s w, Good C s → Sat C s w → Q a s → wpList P ops Q' tl a w) : ∀ (n : Nat) (listed : Array Bool) (a : Act) (s : St) (w : World), Good C s → Sat C s w →
    wpAnyT P ops C L Q n listed a s → wpAny P .any ops Q' (n + tl.length) listed a w
  | 0, listed, a, s, w, hg, hw, h => by
    rw [Nat.zero_add]
    refine wpAny_of_seq tl L listed a w htl ?_ (hQ _ _ _ hg hw h.2)
    rw [← hlen]; exact h.1
  | n + 1, listed, a, s, w, hg, hw, h => by
    rw [show n + 1 + tl.length = (n + tl.length) + 1 by omega]
    exact ⟨fun h0 => absurd h0 h.1, fun i hi => wpOp_of_aOp hg hw (fun a' s' w' hg' hw' hk => wpAny_of_absT htl hlen hQ n _ a' s' w' hg' hw' hk) (h.2 i hi).2⟩

/-- **THE HEAD IN ONE ORDER, THEN THE TAIL.** -/
theorem wp_region_tail {id : Nat} {Q : Exit → Act → World → Prop} {a : Act} {w : World} {l : List Oper} (C : Cls) (ord : List Nat) (L : Nat) (hm : P.follows .mixedOrders = true) (hB : okL l.toArray ord L = true) (hI : C.I w.drew)
    (h : wpOrd P l.toArray C (fun a s => ∀ w0, C.I w0 → (∀ j, s.F j w0) → (∀ k, s.U k → k < w0.heap.size) → C.J (s.T w0) → wpList P l.toArray Q (l.drop L) a (s.T w0)) ord a St.start) : (Code.region id l.toArray true).wp P Q a w := by
  simp only [okL, Bool.and_eq_true, beq_iff_eq, decide_eq_true_eq] at hB
  obtain ⟨⟨⟨⟨hs, hT⟩, hL⟩, hok⟩, hlen⟩ := hB
  have hgood : Good C St.start := ⟨⟨w.drew, C.IJ _ hI, w.drew, hI, fun _ => trivial, fun _ hk => hk.elim, rfl, fun _ => rfl⟩, fun _ _ _ h _ => h, fun _ _ => rfl⟩
  have hsat : Sat C St.start w.drew := ⟨C.IJ _ hI, w.drew, hI, fun _ => trivial, fun _ hk => hk.elim, rfl, fun _ => rfl⟩
  refine wp_region_any hm ?_
  have hL' : L < l.length := by simpa using hL
  have hsz : l.toArray.size = ord.length + (l.drop L).length := by simp; omega
  rw [hsz]
  refine wpAny_of_absT (C := C) (L := L) (Q := fun a s => ∀ w0, C.I w0 → (∀ j, s.F j w0) → (∀ k, s.U k → k < w0.heap.size) → C.J (s.T w0) → wpList P l.toArray Q (l.drop L) a (s.T w0)) (fun j => by simp) (by simp) (fun a s w _ hw hq => ?_) _ _ _ _ _ hgood hsat
    (anyT_of_ord hT (Region.noSelect_spec hs) ord _ a _ ?_ (by rw [← hsz]; exact hok) hgood h)
  · obtain ⟨hJ, w0, hI0, x1, x2, x3, _⟩ := hw
    subst x3
    exact hq w0 hI0 x1 x2 hJ
  · intro j oj _ hl
    rw [wp_region_abs.getD_replicate] at hl
    cases hl
end
end Abs
end Go.Proofs.YtlnonecibpjcoaaGreatDoor

namespace Go.Proofs.YtlnonecibpjcoaaGreatDoor
open Go.RowKit
attribute [local go_sem] Oper.semAt_some

theorem InK.at {w : World} {g : Nat} {cs : Array Value} {T : TypeId} {k : Nat} (h : w.heap[g]? = some (.cells cs T (0, 0))) (hk : cs.size = k) : InK w (some ⟨g, 0, none⟩) 1 k cs.toList :=
  ⟨by simp [hk], fun _ => ⟨_, rfl, (Array.getElem?_eq_some_iff.1 h).1, fun i hi => by
    rw [show (⟨g, 0, none⟩ : Addr).add i = ⟨g, i, none⟩ by
      unfold Addr.add
      split
      · next h0 => simp [h0]
      · simp]
    rw [(rcell h).1]
    simp⟩⟩
/-- a row is stored into a field of a variable -/
theorem wpList_storeS {ops : Array Oper} {rest : List Oper} {o : Oper} {a : Act} {w : World} {Q : Exit → Act → World → Prop} (hgd : o.guard = none) (t e : TypeId) (hu : Tryz.prog.underlying t = some (.slice e)) (p x : Operand)
    (ho : o.op = .store t p x) (g i : Nat) (T : TypeId) (old : Array Value) (A : Option Addr) (n c : Nat) (hp : a.eval p = .pointer (some ⟨g, i, none⟩)) (hx : a.eval x = .slice A n c)
    (hg : w.heap[g]? = some (.cells old T (0, 0))) (hi : i < old.size) (hz : ∀ w, (sizeOf t).run Tryz.prog w = .ok 1 w)
    (h : wpList Tryz.prog ops Q rest (a.put o.dst undef) (setRow w g (old.setIfInBounds i (.slice A n c)))) : wpList Tryz.prog ops Q (o :: rest) a w := by
  have hrun : (Instr.storeAt t (.pointer (some ⟨g, i, none⟩)) (.slice A n c)).run Tryz.prog w = .ok () (w.setCell ⟨g, i, none⟩ (.slice A n c)) := by
    obtain ⟨z1, z2, z3⟩ := rcell hg
    have e1 : w.cell? ⟨g, i, none⟩ = some old[i] := by rw [z1]; simp [hi]
    have e2 := z2 i
    simp [Instr.storeAt, Instr.sureAddr, storeVar, hz, storeCells, go_sem, e1, e2]
  refine wpList_plain hgd fun _ hK => ?_
  unfold Oper.wp execOp
  simp only [ho, hp, hx, Sem.run_bind, Sem.run_pure, Result.andThen_ok, hrun]
  rw [setRow_of_setCell hg _ rfl]
  exact hK _ _ h

/-- an Op of which nothing is said -/
abbrev oz : OpV := ⟨0, 0, ⟨#[]⟩, 0, 0, 0, none, 0, 0, 0, ⟨#[]⟩, 0, 0, 0, 0, ⟨#[]⟩, 0, 0⟩
theorem build48_3 (w : World) : (Instr.build 48 #[(0, .int .i64 3)]).run Tryz.prog w = .ok (.agg (cmdCs 3 oz 0 none 0 0)) w := by kernel_rfl
set_option maxRecDepth 100000 in
set_option maxHeartbeats 8000000 in
theorem ref_Parse_crash (hd : ByteArray) (hh : hd = wCrash) (l : List ByteArray) (s : ByteArray) (hs : s.size ≤ 1000000) (h : rW s.data.toList ⟨#[]⟩ [] = some (hd :: l)) (hl : l.length ≤ 1000000) (hz : ∀ x ∈ l, x.size ≤ 1000000) (w : World) :
    Calls Tryz.prog 11 #[.string s] w (RPq (match pInts l with | some xs => if xs.length ≤ 300 then some { kind := 3, masks := xs } else none | none => none) w) := by
  have c0 := ref_Words s hs (w.alloc (.cells zCmd 48))
  rw [h] at c0
  obtain ⟨R, hR⟩ : ∃ R : Option Cm, R = (match pInts l with | some xs => if xs.length ≤ 300 then some { kind := 3, masks := xs } else none | none => none) := ⟨_, rfl⟩
  rw [← hR]
  have HR := hide hR
  clear hR h
  have f1 := na w zCmd 48
  have hb1 := bA (b0 w) (.cells zCmd 48)
  have a1 : (hd.toList == ([115, 121, 110, 99] : List UInt8)) = false := litNe _ (by rw [hh]; decide)
  have a2 : (hd.toList == ([102, 108, 117, 115, 104] : List UInt8)) = false := litNe _ (by rw [hh]; decide)
  have a3 : (hd.toList == ([99, 111, 109, 112, 97, 99, 116] : List UInt8)) = false := litNe _ (by rw [hh]; decide)
  have a4 : (hd.toList == ([112, 111, 119, 101, 114] : List UInt8)) = false := litNe _ (by rw [hh]; decide)
  have a5 : (hd.toList == ([99, 114, 97, 115, 104] : List UInt8)) = true := litEq _ (by rw [hh]; rfl)
  clear hh
  go_enter Tryz.func11, Tryz.ntmps11
  go_wp2_with fail
  refine c0.mono ?_
  rintro e w2 ⟨v, rfl, hO, hb2⟩
  obtain ⟨A, c, rfl, hr⟩ := hO.cr
  have f2 := kp hb2 f1
  have HB := hide (bB hb1 hb2)
  have hzc := zCmd_size
  have h1 := zCmd_one
  have hcap := hr.cap
  have hin := hr.inV
  rw [strV_len] at *
  obtain ⟨ad, rfl, hal, hc⟩ := hin (by simp [strV])
  have q0 := hc 0 (by simp [strV])
  simp only [strV, List.map_cons, List.getElem_cons_zero, addr0] at q0
  have hin2 := inV_from (j := 1) hcap hin
  have hlc : (hd :: l).length = l.length + 1 := rfl
  rw [hlc] at hcap ⊢
  have e3 : (hd :: l).drop 1 = l := rfl
  rw [e3] at hin2
  obtain ⟨A1, hA1⟩ : ∃ A1, A1 = some (if c - 1 = 0 then ad else ad.add 1) := ⟨_, rfl⟩
  obtain ⟨c1, hc1⟩ : ∃ c1, c1 = c - 1 := ⟨_, rfl⟩
  rw [← hA1] at hin2
  have HA1 := hide hA1
  have HC1 := hide hc1
  clear hA1 hc1
  have cN := ref_numbers A1 c1 l hl hz w2 hin2
  clear c0 hb1 hO hc hr hin hin2
  go_wp2_with (refine wpList_sliceFrom rfl _ _ rfl ad (l.length + 1) c 1 rfl rfl (by omega) hcap A1 l.length c1 HA1.out rfl HC1.out ?_; simp only [Act.put, List.setIfInBounds_toArray, List.set_cons_zero, List.set_cons_succ])
  refine cN.mono ?_
  rintro e w3 hp3
  have hB := HB.out
  cases hp : pInts l with
  | none =>
    rw [hp] at hp3
    obtain ⟨rfl, hb3⟩ := hp3
    have f3 := kp hb3 f2
    have HB3 := hide (bB hB hb3)
    have HN : Hid (R = none) := hide (by rw [HR.out, hp])
    clear hp hB hb3 f2 cN q0
    go_wp2_with (first | (refine wpList_buildW rfl _ _ rfl (.agg zCmd) #[] (by simp [Act.eval]) (build48_0 _) ?_; simp only [Act.put, List.setIfInBounds_toArray, List.set_cons_zero, List.set_cons_succ]) | (refine wpList_storeW rfl _ _ _ rfl w.heap.size 48 _ zCmd rfl rfl f3 (by rw [size48, hzc]) rfl h1 ?_; simp only [Act.put]))
    exact rq_no rfl rfl f3 zCmd_size HB3.out HN.out
  | some xs =>
    rw [hp] at hp3
    obtain ⟨v, rfl, hO3, hb3⟩ := hp3
    have f3 := kp hb3 f2
    have HB3 := hide (bB hB hb3)
    obtain ⟨A3, c3, rfl, hr3⟩ := hO3.cr
    have HI3 := hide hr3.inV
    rw [intV_len] at *
    clear hB hb3 f2 cN q0 hO3 hr3
    by_cases h300 : 300 < xs.length
    · have HN : Hid (R = none) := hide (by rw [HR.out, hp]; simp only; rw [if_neg (by omega)])
      have e8 : decide ((300 : Int) < (xs.length : Int)) = true := decide_eq_true (by omega)
      clear hp
      go_wp2_with (first | (refine wpList_buildW rfl _ _ rfl (.agg zCmd) #[] (by simp [Act.eval]) (build48_0 _) ?_; simp only [Act.put, List.setIfInBounds_toArray, List.set_cons_zero, List.set_cons_succ]) | (refine wpList_storeW rfl _ _ _ rfl w.heap.size 48 _ zCmd rfl rfl f3 (by rw [size48, hzc]) rfl h1 ?_; simp only [Act.put]))
      exact rq_no rfl rfl f3 zCmd_size HB3.out HN.out
    · have HN : Hid (R = some { kind := 3, masks := xs }) := hide (by rw [HR.out, hp]; simp only; rw [if_pos (by omega)])
      have e8 : decide ((300 : Int) < (xs.length : Int)) = false := decide_eq_false (by omega)
      clear hp
      obtain ⟨Y, hY⟩ : ∃ Y, Y = cmdCs 3 oz 0 none 0 0 := ⟨_, rfl⟩
      have bY := build48_3
      have hYs : Y.size = 19 := by rw [hY]; rfl
      have hY1 : Y.all (·.oneCell') = true := by rw [hY]; exact cmd_one _ _ _ _ _ _
      rw [← hY] at bY
      have HY := hide hY
      clear hY
      go_wp2_with (first | (refine wpList_buildW rfl _ _ rfl (.agg Y) #[(0, .int .i64 3)] (by simp [Act.eval]) (bY _) ?_; simp only [Act.put, List.setIfInBounds_toArray, List.set_cons_zero, List.set_cons_succ]) | (refine wpList_storeW rfl _ _ _ rfl w3.heap.size 48 _ Y rfl rfl (na w3 zCmd 48) (by rw [size48, hYs]) (by rw [hYs]; rfl) hY1 ?_; simp only [Act.put]))
      obtain ⟨q, hq⟩ : ∃ q, q = w3.heap.size := ⟨_, rfl⟩
      have hqw : w.heap.size < q := by rw [hq]; exact (rcell f3).2.2
      generalize hT : setRow (w3.alloc _) w3.heap.size _ = w4
      obtain ⟨hx4, fq4⟩ := fin_x (b0 _) (na w3 zCmd 48) hT
      have HB4 := hide (bX (bA (b0 w3) (.cells zCmd 48)) hx4 (Nat.le_refl _))
      rw [← hq] at fq4 ⊢
      rw [HY.out] at fq4
      have HQ := hide hq
      clear hT hx4 hq bY
      go_loopw [12] (fun v12 wr => ∃ (k : Nat) (M : Option Addr) (mc : Nat), v12 = .int .i64 (k : Int) ∧ k ≤ xs.length ∧ (wr.heap[q]? = some (.cells (cmdCs 3 oz 0 M k mc) 48 (0, 0))) ∧ Hid (OwnK 3 1 (q + 1) wr (.slice M k mc) k (intV (xs.take k))) ∧ Hid (k = 0 → (.slice M k mc : Value) = .slice none 0 0) ∧ Hid (Below w3.heap.size w3 wr)) (fun v12 _ => xs.length - (intOf v12).toNat)
      case atStart => exact ⟨0, none, 0, rfl, by omega, fq4, hide (OwnK.nil _ _), hide (fun _ => rfl), HB4⟩
      case round =>
        obtain ⟨k, M, mc, rfl, hk, fq, HO, HZ, HBr⟩ := hrel
        by_cases hlt : k < xs.length
        · have e1 : decide ((k : Int) < (xs.length : Int)) = true := decide_eq_true (by omega)
          obtain ⟨ad3, rfl, -, -⟩ := HI3.out (by rw [intV_len]; omega)
          obtain ⟨x, hx⟩ : ∃ x, x = xs[k] := ⟨_, rfl⟩
          have QX : ∀ w0, Below wr.heap.size wr w0 → w0.cell? (ad3.add k) = some (.int .i64 x) := fun w0 hI => by
            obtain ⟨ad', e, -, hc⟩ := (HI3.out.below (bB HBr.out hI)) (by rw [intV_len]; omega)
            obtain rfl := Option.some.inj e
            have := hc k (by rw [intV_len]; omega)
            rw [this, hx]; simp [intV]
          have HX : Hid (intV (xs.take (k + 1)) = intV (xs.take k) ++ [.int .i64 x]) := hide (by rw [List.take_succ_eq_append_getElem hlt, intV_app, hx]; rfl)
          clear hx
          have fq' := fq
          unfold cmdCs at fq'
          obtain ⟨z1, z2, z3⟩ := rcell fq'
          go_wp2_with fail
          refine Abs.wp_region_tail (Abs.cls0 _) [0, 1, 2, 3, 4, 5, 6] 7 (by kernel_rfl) (by kernel_rfl) (Below.refl _ _).drew ?_
          (refine Abs.step_pure rfl rfl (fun K hK => ?_); go_simp; (try go_bits); (first | refine hK _ _ ?_ | (simp only [↓IntWalk.iteOmega]; go_simp; (try go_bits); refine hK _ _ ?_)); clear hK K)
          (refine Abs.step_load (v := ?_) rfl rfl (by kernel_rfl) rfl (fun w0 hI => ?_) (fun K hK => ?_); rotate_left; (· have z0 := (rcell (kp hI (fq'))).1; go_simp; rfl); (simp only [Act.put, List.setIfInBounds_toArray, List.set_cons_zero, List.set_cons_succ]; refine hK _ _ ?_; clear hK K))
          (refine Abs.step_pure rfl rfl (fun K hK => ?_); go_simp; (try go_bits); (first | refine hK _ _ ?_ | (simp only [↓IntWalk.iteOmega]; go_simp; (try go_bits); refine hK _ _ ?_)); clear hK K)
          (refine Abs.step_pure rfl rfl (fun K hK => ?_); go_simp; (try go_bits); (first | refine hK _ _ ?_ | (simp only [↓IntWalk.iteOmega]; go_simp; (try go_bits); refine hK _ _ ?_)); clear hK K)
          (refine Abs.step_pure rfl rfl (fun K hK => ?_); go_simp; (try go_bits); (first | refine hK _ _ ?_ | (simp only [↓IntWalk.iteOmega]; go_simp; (try go_bits); refine hK _ _ ?_)); clear hK K)
          (refine Abs.step_load (v := ?_) rfl rfl (by kernel_rfl) rfl (fun w0 hI => ?_) (fun K hK => ?_); rotate_left; (· have z0 := QX w0 hI; go_simp; rfl); (simp only [Act.put, List.setIfInBounds_toArray, List.set_cons_zero, List.set_cons_succ]; refine hK _ _ ?_; clear hK K))
          (refine Abs.step_new (f := fun g => .slice (some ⟨g, 0, none⟩) 1 1) (obj := .cells #[.int .i64 x] 3) rfl rfl rfl rfl (fun w0 => ?_) (fun K hK g_x hv_x hu_x => ?_); (· go_simp; try rfl); (simp only [Act.put, List.setIfInBounds_toArray, List.set_cons_zero, List.set_cons_succ]; refine hK _ _ ?_; clear hK K))
          intro w0 hI hF hx1 hx2
          have hlit := (hF 6).2 rfl
          clear hx1 hx2 hF
          simp only [Abs.T_setF, Abs.T_addA, Abs.T_push, Abs.T_start, List.drop_succ_cons, List.drop_zero]
          have f5 := kp hI fq
          have HO5 := hide (HO.out.lift hI)
          have HK5 := hide (InK.at (k := 1) hlit rfl)
          have HB5 := hide (bB HBr.out hI)
          have hs5 : q + 1 ≤ w0.heap.size := (rcell f5).2.2
          clear hlit hI z1 z2 z3 fq'
          go_wp2_with (first
            | (refine wpList_pushK rfl _ _ _ rfl 8 Tryz.underlying46 int_info rfl (by decide) (by decide) (q + 1) _ k 1 (intV (xs.take k)) [.int .i64 x] (some ⟨g_x, 0, none⟩) 1 rfl rfl HO5.out HK5.out (by simp [Value.oneCell']) (by omega) hs5 ?_; intro v6 w6 hO6 hlow6 hsz6; obtain ⟨A6, c6, rfl, -⟩ := hO6.cr; have hb6 := hlow6 w0 (Below.refl _ _); have f6 := (hb6.block q (by omega)).trans f5; have HB6 := hide (HB5.out.trans (hb6.mono (by have := HQ.out; omega))); have HO6 := hide hO6; clear hlow6 hO6 hb6)
            | (refine wpList_storeS rfl 46 3 Tryz.underlying46 _ _ rfl q 18 48 _ A6 (k + 1) c6 rfl rfl f6 (by simp [cmdCs]) (fun w => Tryz.sizeOf46 w) ?_; generalize hT7 : setRow w6 _ _ = w7; obtain ⟨hx7, f7⟩ := fin_x (b0 _) f6 hT7; have HB7 := hide (bX HB6.out hx7 (by have := HQ.out; omega)); have HO7 := hide (HO6.out.excP hx7 (by omega)); clear hT7 hx7))
          go_roundw
          case rel => exact ⟨k + 1, A6, c6, by go_num, by omega, by simpa [cmdCs] using f7, hide (by rw [HX.out]; exact HO7.out), hide (fun h => by omega), HB7⟩
          case measure => simp [intOf]; omega
        · obtain rfl : k = xs.length := by omega
          have e1 : decide ((xs.length : Int) < (xs.length : Int)) = false := decide_eq_false (by omega)
          rw [List.take_length] at HO
          obtain ⟨M', mc', e, hk3⟩ := HO.out.crS HZ.out
          injection e with e4 e5 e6
          subst e4 e6
          have f3 := kp HBr.out f3
          obtain ⟨Z, hZ⟩ : ∃ Z, Z = cmdCs 3 oz 0 M xs.length mc := ⟨_, rfl⟩
          have hZs : Z.size = 19 := by rw [hZ]; rfl
          have hZ1 : Z.all (·.oneCell') = true := by rw [hZ]; exact cmd_one _ _ _ _ _ _
          have HC : Hid (CmdIs w.heap.size wr (.agg Z) { kind := 3, masks := xs }) := hide (by rw [hZ]; exact ⟨none, 0, M, mc, rfl, RS.nil _, hk3.mono (by omega)⟩)
          rw [← hZ] at fq
          have HBw := hide (bB HB3.out HBr.out)
          clear hZ hk3 e5
          go_wp2_with (first | (refine wpList_loadW rfl _ _ rfl q 48 Z rfl fq _ rfl Tryz.underlying48 (by rw [size48, hZs]) ?_; simp only [Act.put, List.setIfInBounds_toArray, List.set_cons_zero, List.set_cons_succ]) | (refine wpList_storeW rfl _ _ _ rfl w.heap.size 48 _ Z rfl rfl f3 (by rw [size48, hZs]) (by rw [hZs]; rfl) hZ1 ?_; simp only [Act.put]))
          exact rq_yes rfl rfl f3 hZs HBw.out HC.out HN.out
end Go.Proofs.YtlnonecibpjcoaaGreatDoor

namespace Go.Proofs.YtlnonecibpjcoaaGreatDoor
open Go.RowKit
attribute [local go_sem] Oper.semAt_some

theorem eqT {a b : ByteArray} (h : a = b) : (a.toList == b.toList) = true := by subst h; simp
theorem eqF {a b : ByteArray} (h : a ≠ b) : (a.toList == b.toList) = false := by
  rw [beq_eq_false_iff_ne]
  intro e
  apply h
  apply ByteArray.ext
  rw [ByteArray.toList_eq, ByteArray.toList_eq] at e
  exact Array.toList_inj.1 e
theorem whatK_of {x : ByteArray} {k : Nat} (h1 : 1 ≤ k) (h5 : k ≤ 5) (e : rWhatB k = x) : whatK x = k := by
  subst e
  obtain rfl | rfl | rfl | rfl | rfl : k = 1 ∨ k = 2 ∨ k = 3 ∨ k = 4 ∨ k = 5 := by omega
  all_goals decide
theorem whatK_none {x : ByteArray} (h : ∀ j, 1 ≤ j → j < 6 → rWhatB j ≠ x) : whatK x = 0 := by
  have h1 : x ≠ wCount := fun e => h 1 (by omega) (by omega) (by rw [e]; rfl)
  have h2 : x ≠ wLeast := fun e => h 2 (by omega) (by omega) (by rw [e]; rfl)
  have h3 : x ≠ wMost := fun e => h 3 (by omega) (by omega) (by rw [e]; rfl)
  have h4 : x ≠ wSum := fun e => h 4 (by omega) (by omega) (by rw [e]; rfl)
  have h5 : x ≠ wMean := fun e => h 5 (by omega) (by omega) (by rw [e]; rfl)
  unfold whatK
  rw [if_neg h1, if_neg h2, if_neg h3, if_neg h4, if_neg h5]

theorem build26_8 (nm : ByteArray) (a b k n : Int) (w : World) : (Instr.build 26 #[(0, .int .i64 8), (1, .string nm), (2, .int .i64 a), (3, .int .i64 b), (4, .int .i64 k), (5, .int .i64 n)]).run Tryz.prog w = .ok (.agg #[.int .i64 8, .string nm, .int .i64 a, .int .i64 b, .int .i64 k, .int .i64 n]) w := by kernel_rfl
theorem build29_q (q0 : Int) (nm : ByteArray) (a b k n : Int) (w : World) : (Instr.build 29 #[(0, .int .i64 5), (2, .agg #[.int .i64 q0, .string nm, .int .i64 a, .int .i64 b, .int .i64 k, .int .i64 n])]).run Tryz.prog w = .ok (.agg (OpV.cs ⟨5, 0, ⟨#[]⟩, 0, 0, 0, none, 0, 0, q0, nm, a, b, k, n, ⟨#[]⟩, 0, 0⟩)) w := by kernel_rfl

set_option maxRecDepth 100000 in
set_option maxHeartbeats 8000000 in
theorem ref_Parse_buckets (hd nm : ByteArray) (r : List ByteArray) (hb : NoBare hd) (a6 : (hd.toList == ([114, 101, 97, 100] : List UInt8)) = false) (a7 : (hd.toList == ([98, 117, 99, 107, 101, 116, 115] : List UInt8)) = true) (hn : nm.size ≤ 40) (s : ByteArray) (hs : s.size ≤ 1000000) (h : rW s.data.toList ⟨#[]⟩ [] = some (hd :: nm :: r)) (hz : ∀ x ∈ r, x.size ≤ 1000000) (w : World) :
    Calls Tryz.prog 11 #[.string s] w (RPq (rBuckets nm r) w) := by
  have c0 := ref_Words s hs (w.alloc (.cells zCmd 48))
  rw [h] at c0
  obtain ⟨R, hR⟩ : ∃ R : Option Cm, R = rBuckets nm r := ⟨_, rfl⟩
  rw [← hR]
  have HR := hide hR
  clear hR h
  have f1 := na w zCmd 48
  have hb1 := bA (b0 w) (.cells zCmd 48)
  obtain ⟨a1, a2, a3, a4, a5⟩ := hb
  go_enter Tryz.func11, Tryz.ntmps11
  go_wp2_with fail
  refine c0.mono ?_
  rintro e w2 ⟨v, rfl, hO, hb2⟩
  obtain ⟨A, c, rfl, hr⟩ := hO.cr
  have f2 := kp hb2 f1
  have HB := hide (bB hb1 hb2)
  have hzc := zCmd_size
  have h1 := zCmd_one
  have hcap := hr.cap
  have hin := hr.inV
  rw [strV_len] at hcap
  obtain ⟨ad, rfl, hal, hc⟩ := hr.inV (by simp [strV])
  have q0 := hc 0 (by simp [strV])
  have q1 := hc 1 (by simp [strV])
  simp only [strV, List.map_cons, List.getElem_cons_zero, List.getElem_cons_succ, addr0] at q0 q1
  have q1 : w2.cell? ⟨ad.block, ad.off + 1, none⟩ = some (.string nm) := by simpa [Addr.add] using q1
  rw [strV_len]
  have e0 : (hd :: nm :: r).length = r.length + 2 := rfl
  rw [e0] at hcap ⊢
  have e2 : decide ((r.length : Int) + 2 < 2) = false := decide_eq_false (by omega)
  have e3 : decide ((40 : Int) < (nm.size : Int)) = false := decide_eq_false (by omega)
  by_cases hr4 : r.length = 4
  · match r, hr4 with
    | [x, y1, y2, y3], _ =>
      have q2 := hc 2 (by simp [strV])
      simp only [strV, List.map_cons, List.getElem_cons_zero, List.getElem_cons_succ, addr0] at q2
      have q2 : w2.cell? ⟨ad.block, ad.off + 2, none⟩ = some (.string x) := by simpa [Addr.add] using q2
      have hin2 := inV_from (j := 3) (by rw [show (hd :: nm :: [x, y1, y2, y3]).length = 6 from rfl]; simpa using hcap) hin
      have e9 : (hd :: nm :: [x, y1, y2, y3]).drop 3 = [y1, y2, y3] := rfl
      rw [e9] at hin2
      obtain ⟨A1, hA1⟩ : ∃ A1, A1 = some (if c - 3 = 0 then ad else ad.add 3) := ⟨_, rfl⟩
      obtain ⟨c1, hc1⟩ : ∃ c1, c1 = c - 3 := ⟨_, rfl⟩
      rw [← hA1] at hin2
      have HA1 := hide hA1
      have HC1 := hide hc1
      clear hA1 hc1
      have hcap6 : 6 ≤ c := by simpa using hcap
      have cN := ref_numbers A1 c1 [y1, y2, y3] (by simp) (fun z hzz => hz z (List.mem_cons_of_mem _ hzz)) w2 hin2
      clear c0 hb1 hO hc hr hz e0 hcap hin hin2
      simp only [List.length_cons, List.length_nil, Nat.zero_add, Nat.reduceAdd] at *
      go_wp2_with (refine wpList_sliceFrom rfl _ _ rfl ad 6 c 3 rfl rfl (by omega) hcap6 A1 3 c1 HA1.out rfl HC1.out ?_; simp only [Act.put, List.setIfInBounds_toArray, List.set_cons_zero, List.set_cons_succ])
      refine cN.mono ?_
      rintro e w3 hp3
      have hB := HB.out
      cases hp : pInts [y1, y2, y3] with
      | none =>
        rw [hp] at hp3
        obtain ⟨rfl, hb3⟩ := hp3
        have f3 := kp hb3 f2
        have HB3 := hide (bB hB hb3)
        have HN : Hid (R = none) := hide (by rw [HR.out, rBuckets, hp])
        clear hp hB hb3 f2 cN q0 q1 q2
        go_wp2_with (first | (refine wpList_buildW rfl _ _ rfl (.agg zCmd) #[] (by simp [Act.eval]) (build48_0 _) ?_; simp only [Act.put, List.setIfInBounds_toArray, List.set_cons_zero, List.set_cons_succ]) | (refine wpList_storeW rfl _ _ _ rfl w.heap.size 48 _ zCmd rfl rfl f3 (by rw [size48, hzc]) rfl h1 ?_; simp only [Act.put]))
        exact rq_no rfl rfl f3 zCmd_size HB3.out HN.out
      | some xs =>
        rw [hp] at hp3
        have hl3 := pInts_len hp
        match xs, hl3 with
        | [u, v, n], _ =>
          obtain ⟨v3, rfl, hO3, hb3⟩ := hp3
          have f3 := kp hb3 f2
          have HB3 := hide (bB hB hb3)
          obtain ⟨A3, c3, rfl, hr3⟩ := hO3.cr
          have q2 := (hb3.cell (p := ⟨ad.block, ad.off + 2, none⟩) (by show ad.block < _; exact hal)).trans q2
          obtain ⟨ad3, rfl, hal3, hc3⟩ := hr3.inV (by simp [intV])
          have p0 := hc3 0 (by simp [intV])
          have p1 := hc3 1 (by simp [intV])
          have p2 := hc3 2 (by simp [intV])
          simp only [intV, List.map_cons, List.getElem_cons_zero, List.getElem_cons_succ, addr0] at p0 p1 p2
          have p1 : w3.cell? ⟨ad3.block, ad3.off + 1, none⟩ = some (.int .i64 v) := by simpa [Addr.add] using p1
          have p2 : w3.cell? ⟨ad3.block, ad3.off + 2, none⟩ = some (.int .i64 n) := by simpa [Addr.add] using p2
          have HN : Hid (R = if 0 < whatK x then some { ok := 5, qk := 8, qn := nm, qa := u, qb := v, qw := (whatK x : Int), qN := n } else none) := hide (by rw [HR.out, rBuckets, hp])
          have hal' : ad.block < w3.heap.size := Nat.lt_of_lt_of_le hal hb3.size
          rw [intV_len]
          simp only [List.length_cons, List.length_nil, Nat.zero_add, Nat.reduceAdd]
          clear hp hB hb3 f2 cN q0 q1 hO3 hr3 hc3 hal
          go_wp2_with fail
          go_loopw [20] (fun v20 wr => ∃ (k : Nat), v20 = .int .i64 (k : Int) ∧ 1 ≤ k ∧ k ≤ 6 ∧ Hid (∀ j, 1 ≤ j → j < k → rWhatB j ≠ x) ∧ Hid (Below w3.heap.size w3 wr)) (fun v20 _ => 6 - (intOf v20).toNat)
          case atStart => exact ⟨1, rfl, by omega, by omega, hide (fun j h1 h2 => by omega), hide (b0 _)⟩
          case round =>
            obtain ⟨k, rfl, hk1, hk6, HH, HBr⟩ := hrel
            have f4 := kp HBr.out f3
            have HBw := hide (bB HB3.out HBr.out)
            by_cases hlt : k ≤ 5
            · have e1 : decide ((k : Int) ≤ 5) = true := decide_eq_true (by omega)
              have QX : ∀ w0, Below wr.heap.size wr w0 → w0.cell? ⟨ad.block, ad.off + 2, none⟩ = some (.string x) := fun w0 hI => ((bB HBr.out hI).cell (p := ⟨ad.block, ad.off + 2, none⟩) hal').trans q2
              have P0 : ∀ w0, Below wr.heap.size wr w0 → w0.cell? ad3 = some (.int .i64 u) := fun w0 hI => ((bB HBr.out hI).cell (p := ad3) hal3).trans p0
              have P1 : ∀ w0, Below wr.heap.size wr w0 → w0.cell? ⟨ad3.block, ad3.off + 1, none⟩ = some (.int .i64 v) := fun w0 hI => ((bB HBr.out hI).cell (p := ⟨ad3.block, ad3.off + 1, none⟩) hal3).trans p1
              have P2 : ∀ w0, Below wr.heap.size wr w0 → w0.cell? ⟨ad3.block, ad3.off + 2, none⟩ = some (.int .i64 n) := fun w0 hI => ((bB HBr.out hI).cell (p := ⟨ad3.block, ad3.off + 2, none⟩) hal3).trans p2
              have cW := fun W => ref_What k (by omega) W
              by_cases hx : rWhatB k = x
              · have hY := whatK_of hk1 hlt hx
                have HN2 : Hid (R = some { ok := 5, qk := 8, qn := nm, qa := u, qb := v, qw := (k : Int), qN := n }) := hide (by rw [HN.out, hY, if_pos (by omega)])
                have ex := eqT hx
                generalize rWhatB k = K at *
                clear hx hY HH
                have HN3 : Hid (R = some { ok := 5, qk := 8, qn := nm, qa := u, qb := v, qw := (k : Int), qN := n }) := HN2
                obtain ⟨X, hX⟩ : ∃ X : Array Value, X = #[.int .i64 8, .string nm, .int .i64 u, .int .i64 v, .int .i64 (k : Int), .int .i64 n] := ⟨_, rfl⟩
                obtain ⟨O, hO⟩ : ∃ O, O = OpV.cs ⟨5, 0, ⟨#[]⟩, 0, 0, 0, none, 0, 0, 8, nm, u, v, (k : Int), n, ⟨#[]⟩, 0, 0⟩ := ⟨_, rfl⟩
                obtain ⟨Y, hY⟩ : ∃ Y, Y = cmdCs 1 ⟨5, 0, ⟨#[]⟩, 0, 0, 0, none, 0, 0, 8, nm, u, v, (k : Int), n, ⟨#[]⟩, 0, 0⟩ 0 none 0 0 := ⟨_, rfl⟩
                have bX := build26_8 nm u v (k : Int) n
                have bO := build29_q 8 nm u v (k : Int) n
                have bY := build48_op ⟨5, 0, ⟨#[]⟩, 0, 0, 0, none, 0, 0, 8, nm, u, v, (k : Int), n, ⟨#[]⟩, 0, 0⟩
                have hYs : Y.size = 19 := by rw [hY]; rfl
                have hY1 : Y.all (·.oneCell') = true := by rw [hY]; exact cmd_one _ _ _ _ _ _
                have HC : Hid (∀ W, CmdIs w.heap.size W (.agg Y) { ok := 5, qk := 8, qn := nm, qa := u, qb := v, qw := (k : Int), qN := n }) := hide (by rw [hY]; exact fun W => ⟨none, 0, none, 0, rfl, RS.nil _, RS.nil _⟩)
                rw [← hX] at bX bO
                rw [← hO] at bO bY
                rw [← hY] at bY
                clear hX hO hY
                go_wp2_with fail
                refine Abs.wp_region_abs (Abs.cls0 _) [0, 1, 2, 3, 4, 5] (by kernel_rfl) (by kernel_rfl) (Below.refl _ _).drew ?_
                (refine Abs.step_pure rfl rfl (fun K hK => ?_); go_simp; (try go_bits); (first | refine hK _ _ ?_ | (simp only [↓IntWalk.iteOmega]; go_simp; (try go_bits); refine hK _ _ ?_)); clear hK K)
                (refine Abs.step_call_val (f := ?_) (args := ?_) (v := ?_) rfl rfl rfl rfl (fun w0 => ?_) (fun w0 hI => ?_) (fun K hK => ?_); rotate_left 3; (· go_simp; (constructor <;> rfl)); (· exact cW _); (simp only [Act.put, List.setIfInBounds_toArray, List.set_cons_zero, List.set_cons_succ]; refine hK _ _ ?_; clear hK K))
                (refine Abs.step_pure rfl rfl (fun K hK => ?_); go_simp; (try go_bits); (first | refine hK _ _ ?_ | (simp only [↓IntWalk.iteOmega]; go_simp; (try go_bits); refine hK _ _ ?_)); clear hK K)
                (refine Abs.step_pure rfl rfl (fun K hK => ?_); go_simp; (try go_bits); (first | refine hK _ _ ?_ | (simp only [↓IntWalk.iteOmega]; go_simp; (try go_bits); refine hK _ _ ?_)); clear hK K)
                (refine Abs.step_load (v := ?_) rfl rfl (by kernel_rfl) rfl (fun w0 hI => ?_) (fun K hK => ?_); rotate_left; (· have z0 := QX w0 hI; go_simp; rfl); (simp only [Act.put, List.setIfInBounds_toArray, List.set_cons_zero, List.set_cons_succ]; refine hK _ _ ?_; clear hK K))
                (refine Abs.step_pure rfl rfl (fun K hK => ?_); go_simp; (try go_bits); (first | refine hK _ _ ?_ | (simp only [↓IntWalk.iteOmega]; go_simp; (try go_bits); refine hK _ _ ?_)); clear hK K)
                (intro w5 hb5 hx0 hx1 hx2; clear hx0 hx1 hx2; simp only [Abs.T_setF, Abs.T_addA, Abs.T_push, Abs.T_start])
                have f5 := kp hb5 f4
                have HB5 := hide (bB HBw.out hb5)
                have R0 : ∀ w0, Below w5.heap.size w5 w0 → w0.cell? ad3 = some (.int .i64 u) := fun w0 hI => P0 w0 (bB hb5 hI)
                have R1 : ∀ w0, Below w5.heap.size w5 w0 → w0.cell? ⟨ad3.block, ad3.off + 1, none⟩ = some (.int .i64 v) := fun w0 hI => P1 w0 (bB hb5 hI)
                have R2 : ∀ w0, Below w5.heap.size w5 w0 → w0.cell? ⟨ad3.block, ad3.off + 2, none⟩ = some (.int .i64 n) := fun w0 hI => P2 w0 (bB hb5 hI)
                clear P0 P1 P2 QX q2 p0 p1 p2 f4 hb5 cW
                go_wp2_with fail
                refine Abs.wp_region_tail (Abs.cls0 _) [0, 1, 2, 3, 4, 5, 6, 7, 8, 9, 10] 11 (by kernel_rfl) (by kernel_rfl) (Below.refl _ _).drew ?_
                (refine Abs.step_pure rfl rfl (fun K hK => ?_); go_simp; (try go_bits); (first | refine hK _ _ ?_ | (simp only [↓IntWalk.iteOmega]; go_simp; (try go_bits); refine hK _ _ ?_)); clear hK K)
                (refine Abs.step_pure rfl rfl (fun K hK => ?_); go_simp; (try go_bits); (first | refine hK _ _ ?_ | (simp only [↓IntWalk.iteOmega]; go_simp; (try go_bits); refine hK _ _ ?_)); clear hK K)
                (refine Abs.step_pure rfl rfl (fun K hK => ?_); go_simp; (try go_bits); (first | refine hK _ _ ?_ | (simp only [↓IntWalk.iteOmega]; go_simp; (try go_bits); refine hK _ _ ?_)); clear hK K)
                (refine Abs.step_load (v := ?_) rfl rfl (by kernel_rfl) rfl (fun w0 hI => ?_) (fun K hK => ?_); rotate_left; (· have z0 := R0 w0 hI; go_simp; rfl); (simp only [Act.put, List.setIfInBounds_toArray, List.set_cons_zero, List.set_cons_succ]; refine hK _ _ ?_; clear hK K))
                (refine Abs.step_pure rfl rfl (fun K hK => ?_); go_simp; (try go_bits); (first | refine hK _ _ ?_ | (simp only [↓IntWalk.iteOmega]; go_simp; (try go_bits); refine hK _ _ ?_)); clear hK K)
                (refine Abs.step_pure rfl rfl (fun K hK => ?_); go_simp; (try go_bits); (first | refine hK _ _ ?_ | (simp only [↓IntWalk.iteOmega]; go_simp; (try go_bits); refine hK _ _ ?_)); clear hK K)
                (refine Abs.step_load (v := ?_) rfl rfl (by kernel_rfl) rfl (fun w0 hI => ?_) (fun K hK => ?_); rotate_left; (· have z0 := R1 w0 hI; go_simp; rfl); (simp only [Act.put, List.setIfInBounds_toArray, List.set_cons_zero, List.set_cons_succ]; refine hK _ _ ?_; clear hK K))
                (refine Abs.step_pure rfl rfl (fun K hK => ?_); go_simp; (try go_bits); (first | refine hK _ _ ?_ | (simp only [↓IntWalk.iteOmega]; go_simp; (try go_bits); refine hK _ _ ?_)); clear hK K)
                (refine Abs.step_pure rfl rfl (fun K hK => ?_); go_simp; (try go_bits); (first | refine hK _ _ ?_ | (simp only [↓IntWalk.iteOmega]; go_simp; (try go_bits); refine hK _ _ ?_)); clear hK K)
                (refine Abs.step_pure rfl rfl (fun K hK => ?_); go_simp; (try go_bits); (first | refine hK _ _ ?_ | (simp only [↓IntWalk.iteOmega]; go_simp; (try go_bits); refine hK _ _ ?_)); clear hK K)
                (refine Abs.step_load (v := ?_) rfl rfl (by kernel_rfl) rfl (fun w0 hI => ?_) (fun K hK => ?_); rotate_left; (· have z0 := R2 w0 hI; go_simp; rfl); (simp only [Act.put, List.setIfInBounds_toArray, List.set_cons_zero, List.set_cons_succ]; refine hK _ _ ?_; clear hK K))
                intro w6 hI hF hx1 hx2
                clear hx1 hx2 hF
                simp only [Abs.T_setF, Abs.T_addA, Abs.T_push, Abs.T_start, List.drop_succ_cons, List.drop_zero]
                have f6 := kp hI f5
                have HB6 := hide (bB HB5.out hI)
                clear R0 R1 R2 f5 hI
                go_wp2_with (first | (refine wpList_buildW rfl _ _ rfl (.agg X) #[(0, .int .i64 8), (1, .string nm), (2, .int .i64 u), (3, .int .i64 v), (4, .int .i64 (k : Int)), (5, .int .i64 n)] (by simp [Act.eval]) (bX _) ?_; simp only [Act.put, List.setIfInBounds_toArray, List.set_cons_zero, List.set_cons_succ]) | (refine wpList_buildW rfl _ _ rfl (.agg O) #[(0, .int .i64 5), (2, .agg X)] (by simp [Act.eval]) (bO _) ?_; simp only [Act.put, List.setIfInBounds_toArray, List.set_cons_zero, List.set_cons_succ]) | (refine wpList_buildW rfl _ _ rfl (.agg Y) #[(0, .int .i64 1), (1, .agg O)] (by simp [Act.eval]) (bY _) ?_; simp only [Act.put, List.setIfInBounds_toArray, List.set_cons_zero, List.set_cons_succ]) | (refine wpList_storeW rfl _ _ _ rfl w.heap.size 48 _ Y rfl rfl f6 (by rw [size48, hYs]) (by rw [hYs]; rfl) hY1 ?_; simp only [Act.put]))
                exact rq_yes rfl rfl f6 hYs HB6.out (HC.out _) HN3.out
              · have ex := eqF hx
                have HH2 : Hid (∀ j, 1 ≤ j → j < k + 1 → rWhatB j ≠ x) := hide (fun j h1 h2 => by
                  rcases Nat.lt_or_ge j k with h3 | h3
                  · exact HH.out j h1 h3
                  · obtain rfl : j = k := by omega
                    exact hx)
                generalize rWhatB k = K at *
                clear hx HH
                go_wp2_with fail
                refine Abs.wp_region_abs (Abs.cls0 _) [0, 1, 2, 3, 4, 5] (by kernel_rfl) (by kernel_rfl) (Below.refl _ _).drew ?_
                (refine Abs.step_pure rfl rfl (fun K hK => ?_); go_simp; (try go_bits); (first | refine hK _ _ ?_ | (simp only [↓IntWalk.iteOmega]; go_simp; (try go_bits); refine hK _ _ ?_)); clear hK K)
                (refine Abs.step_call_val (f := ?_) (args := ?_) (v := ?_) rfl rfl rfl rfl (fun w0 => ?_) (fun w0 hI => ?_) (fun K hK => ?_); rotate_left 3; (· go_simp; (constructor <;> rfl)); (· exact cW _); (simp only [Act.put, List.setIfInBounds_toArray, List.set_cons_zero, List.set_cons_succ]; refine hK _ _ ?_; clear hK K))
                (refine Abs.step_pure rfl rfl (fun K hK => ?_); go_simp; (try go_bits); (first | refine hK _ _ ?_ | (simp only [↓IntWalk.iteOmega]; go_simp; (try go_bits); refine hK _ _ ?_)); clear hK K)
                (refine Abs.step_pure rfl rfl (fun K hK => ?_); go_simp; (try go_bits); (first | refine hK _ _ ?_ | (simp only [↓IntWalk.iteOmega]; go_simp; (try go_bits); refine hK _ _ ?_)); clear hK K)
                (refine Abs.step_load (v := ?_) rfl rfl (by kernel_rfl) rfl (fun w0 hI => ?_) (fun K hK => ?_); rotate_left; (· have z0 := QX w0 hI; go_simp; rfl); (simp only [Act.put, List.setIfInBounds_toArray, List.set_cons_zero, List.set_cons_succ]; refine hK _ _ ?_; clear hK K))
                (refine Abs.step_pure rfl rfl (fun K hK => ?_); go_simp; (try go_bits); (first | refine hK _ _ ?_ | (simp only [↓IntWalk.iteOmega]; go_simp; (try go_bits); refine hK _ _ ?_)); clear hK K)
                (intro w5 hb5 hx0 hx1 hx2; clear hx0 hx1 hx2; simp only [Abs.T_setF, Abs.T_addA, Abs.T_push, Abs.T_start])
                have HB5 := hide (bB HBr.out hb5)
                go_wp2_with fail
                go_roundw
                case rel => exact ⟨k + 1, by go_num, by omega, by omega, HH2, HB5⟩
                case measure => simp [intOf]; omega
            · have e1 : decide ((k : Int) ≤ 5) = false := decide_eq_false (by omega)
              obtain rfl : k = 6 := by omega
              have HN2 : Hid (R = none) := hide (by rw [HN.out, whatK_none HH.out, if_neg (by omega)])
              clear HH
              go_wp2_with (first | (refine wpList_buildW rfl _ _ rfl (.agg zCmd) #[] (by simp [Act.eval]) (build48_0 _) ?_; simp only [Act.put, List.setIfInBounds_toArray, List.set_cons_zero, List.set_cons_succ]) | (refine wpList_storeW rfl _ _ _ rfl w.heap.size 48 _ zCmd rfl rfl f4 (by rw [size48, hzc]) rfl h1 ?_; simp only [Act.put]))
              exact rq_no rfl rfl f4 zCmd_size HBw.out HN2.out
  · have HN : Hid (R = none) := hide (by
      rw [HR.out]
      match r, hr4 with
      | [], _ => rfl
      | [_], _ => rfl
      | [_, _], _ => rfl
      | [_, _, _], _ => rfl
      | _ :: _ :: _ :: _ :: _ :: _, _ => rfl)
    have e5 : ((r.length : Int) + 2 != 6) = true := by simp; omega
    have e6 : ((r.length : Int) + 2 == 6) = false := by simp; omega
    have e7 : decide ((r.length : Int) + 2 = 6) = false := decide_eq_false (by omega)
    clear c0 hb1 hO hc hr hz e0 HR
    go_wp2_with (first | (refine wpList_buildW rfl _ _ rfl (.agg zCmd) #[] (by simp [Act.eval]) (build48_0 _) ?_; simp only [Act.put, List.setIfInBounds_toArray, List.set_cons_zero, List.set_cons_succ]) | (refine wpList_storeW rfl _ _ _ rfl w.heap.size 48 _ zCmd rfl rfl f2 (by rw [size48, hzc]) rfl h1 ?_; simp only [Act.put]))
    exact rq_no rfl rfl f2 zCmd_size HB.out HN.out
end Go.Proofs.YtlnonecibpjcoaaGreatDoor
