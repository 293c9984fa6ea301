/- pmc.Cut at this program. -/
import Derived.Test.YtpimkigbdjfjoaaDoorPmc4
import Derived.Test.YtpimkigbdjfjoaaDoorP7
set_option linter.unusedSimpArgs false
set_option linter.unusedVariables false
namespace Go.Proofs.YtpimkigbdjfjoaaDoor
open Go.RowKit
attribute [local go_sem] Oper.semAt_some

theorem wpListIn_pushI {F : Fence} {nF : Nat} {ops : Array Oper} {rest : List Oper} {o : Oper} {a : Act} {w : World} {Q : Exit → Act → World → Prop} (hgd : o.guard = none) (s x : Operand)
    (ho : o.op = .call { callee := .builtin .append, args := #[s, x], argTypes := #[46, 46] }) (B : Nat) (v : Value) (l m : List Nat) (A : Option Addr) (c : Nat)
    (hs : a.eval s = v) (hx : a.eval x = .slice A m.length c) (hown : Own B w v l) (hr : Rd w A c m) (hlen : l.length + m.length ≤ 4096) (hB : B ≤ w.heap.size)
    (h : ∀ v' w', Own B w' v' (l ++ m) → w.grownBy w' v.ownBlock → wpListIn F nF Tryd.prog ops Q rest (a.put o.dst v') w') : wpListIn F nF Tryd.prog ops Q (o :: rest) a w := by
  obtain ⟨v', w', hrun, h2, h3⟩ := push_run w o.type hown hr hlen hB
  refine wpListIn_plain hgd fun K hK => ?_
  unfold Oper.wpIn
  refine ⟨by simp [Oper.about, ho, resolve, Target.leads, Sem.run_pure], ?_⟩
  rw [Oper.semAt_plain F _ _ (by rw [ho]; intro c hc'; cases hc')]
  simp [execOp, ho, resolve, invoke, builtin, hs, hx, hrun, Result.andThen]
  exact hK _ _ (h v' w' h2 h3)

/-- what pmc.Cut keeps between two rounds: the row of counts stands in the variable at w's end -/
def cuI (w : World) (pre : List (Option Addr × Nat)) (W : World) : Prop :=
  ∃ v ns, W.heap[w.heap.size]? = some (.cells #[v] 46 (0, 0)) ∧ Own (w.heap.size + 4) W v ns ∧ ns.length = pre.length ∧ Below w.heap.size w W

theorem Own.excP {B g : Nat} {w w1 : World} {v : Value} {l : List Nat} (h : Own B w v l) (hx : Exc g w w1) (hg : g < B) : Own B w1 v l :=
  World.ownsRow.kept h ⟨hx.low.os, hx.low.tape, hx.low.output, hx.size, fun k hk hn => hx.other k hk (fun e => hn (by rw [e]))⟩ (.inr fun e => by have := h.lt g e; omega)
theorem Own.turnedP {B D : Nat} {w w1 : World} {v : Value} {l : List Nat} (h : Own B w v l) (hx : Turned D w w1) (hg : D < B) : Own B w1 v l :=
  World.ownsRow.kept h ⟨hx.os, hx.tape, hx.output, Nat.le_of_eq hx.size.symm, fun k hk hn => hx.block k (fun e => hn (by rw [e]))⟩ (.inr fun e => by have := h.lt D e; omega)
theorem cuI.below {w X Y : World} {pre : List (Option Addr × Nat)} (h : cuI w pre X) (hb : Below X.heap.size X Y) : cuI w pre Y := by
  obtain ⟨v, ns, h1, h2, h3, h4⟩ := h
  exact ⟨v, ns, kp hb h1, h2.lift hb, h3, bB h4 hb⟩
theorem cuI.turned {w X Y : World} {pre : List (Option Addr × Nat)} {L : Nat} (h : cuI w pre X) (ht : Turned L X Y) (hL : L = w.heap.size + 3) : cuI w pre Y := by
  obtain ⟨v, ns, h1, h2, h3, h4⟩ := h
  exact ⟨v, ns, kt ht h1 (by omega), h2.turnedP ht (by omega), h3, h4.trans (ht.low (by omega))⟩
theorem cuI.exc {w X Y : World} {pre : List (Option Addr × Nat)} (h : cuI w pre X) (hx : Exc (w.heap.size + 1) X Y) : cuI w pre Y := by
  obtain ⟨v, ns, h1, h2, h3, h4⟩ := h
  exact ⟨v, ns, kx hx h1 (by omega), h2.excP hx (by omega), h3, bX h4 hx (by omega)⟩

set_option maxRecDepth 100000 in
set_option maxHeartbeats 2000000 in
theorem pmc_Cut1 (p c : Nat) (A : Option Addr) (l : List Bd) (hok : okF (-1) l = true) (hl : l.length ≤ 256) (h0 : 0 < l.length) (w : World) (hp : w.heap[p]? = some (.cells #[.slice A l.length c] 22 (0, 0))) (hR : BR w A c l) :
    Calls Tryd.prog 70 #[.pointer (some ⟨p, 0, none⟩)] w fun e w' => ∃ A' k c', e = .returned (.tuple #[.slice A' k c', .int .i64 0]) ∧ Hid (Parts k l) ∧ Below w.heap.size w w' := by
  obtain ⟨g, o, cur, rfl, hg, hc⟩ := hR.mem h0
  have hst : ∀ X : World, X.heap[g]? = some (.cells cur 37 (0, 0)) → BR X (some ⟨g, o, none⟩) c l := fun X hX => ⟨hR.cap, hR.top, fun _ => ⟨g, o, cur, rfl, hX, hc⟩⟩
  have HST := hide hst
  clear hst hc
  obtain ⟨zp1, zp2, zp3⟩ := rcell hp
  refine calls_of_wp_marks Tryd.func70 rfl ?_
  simp only [Tryd.ntmps70, List.size_toArray, List.length_cons, List.length_nil, Nat.reduceAdd, Nat.reduceSub, Array.replicate_succ, Array.replicate_zero, List.push_toArray, List.append_toArray, List.nil_append, List.cons_append]
  go_wp2_with fail
  refine (pmc_parts _ _ _ _).mono ?_
  rintro e w' ⟨rfl, rfl⟩
  go_wp2_with fail
  generalize hW0 : (w.alloc (.cells #[.slice none 0 0] 46)).alloc (.cells #[.slice (some ⟨g, o, none⟩) l.length c] 22) = W0
  have hs0 : W0.heap.size = w.heap.size + 2 := by rw [← hW0]; simp
  have hI0 : cuI w [] W0 := by
    rw [← hW0]
    exact ⟨_, [], ka (na w _ _) _, Own.nil _ _, rfl, bA (bA (b0 w) _) _⟩
  have hB0 : W0.heap[w.heap.size + 1]? = some (.cells #[.slice (some ⟨g, o, none⟩) l.length c] 22 (0, 0)) := by
    rw [← hW0]; exact na1 w _ _ _
  clear hW0
  refine wp_rangeFunc_seqB rfl (enters_of Tryd.func99 (by kernel_rfl) rfl) (Bs := w.heap.size + 1) (by omega) (parts_seq (w.heap.size + 1) c g cur _ l hok hl HST.out W0 hB0) (fun _ => rfl)
    (cuI w) (fun _ _ _ => False) (fun s X Y h hb => h.below hb) (fun s X Y h ht => h.turned ht (by omega)) (fun _ _ _ _ h _ => h) (fun _ _ _ _ h _ => h) (fun s X h => by obtain ⟨v, ns, -, -, -, h4⟩ := h; exact kp h4 hg) (fun s X Y h hx => h.exc hx) hI0 ?round ?done ?stop
  case round =>
    rintro l' pre ⟨a, n⟩ W K rfl hl2 hi hlen hK
    have e1 : encP (a, n) = #[.slice a n n] := rfl
    rw [e1]
    gi_wp2
    refine hK _ _ (b0 _) ?_
    clear hK
    intro W₂ hT
    obtain ⟨v, ns, i1, i2, i3, i4⟩ := hi.turned hT (by omega)
    have HSZ := hide hT.size
    obtain ⟨z1, z2, z3⟩ := rcell i1
    have k1 : ns.length + [n].length ≤ 4096 := by simp; omega
    have kB : w.heap.size + 4 ≤ (W₂.alloc (.cells #[.int .i64 n] 3)).heap.size := by have := HSZ.out; simp; omega
    have kW : w.heap.size + 4 ≤ W₂.heap.size := by have := HSZ.out; omega
    have KT := hide hT
    clear hT
    gi_wp2_with (gi_at_builtin; refine wpListIn_pushI rfl _ _ rfl (w.heap.size + 4) _ ns [n] _ _ rfl rfl (i2.lift (bA (b0 _) _)) (Rd.oneI _ _ _ rfl) k1 kB ?_; intro v1 w5 ho5 hg5; have HB5 := hide (((bA (b0 W₂) (.cells #[.int .i64 n] 3)).mono kW).grown hg5 kB i2.lt); have f5 := (HB5.out.block _ (Nat.lt_of_lt_of_le (Nat.lt_succ_self _) (by omega))).trans i1; obtain ⟨y1, y2, y3⟩ := rcell f5; have HO5 := hide ho5; obtain ⟨A5, c5, rfl, hr5⟩ := ho5.rd; clear hr5 ho5 hg5)
    rw [row1 f5]
    generalize hT6 : setRow w5 _ _ = w6
    obtain ⟨hx6, f6⟩ := fin_x (b0 _) f5 hT6
    have hsz5 := HB5.out.size
    have hq : ∀ k, k < w.heap.size + 4 → k ≠ w.heap.size → w6.heap[k]? = W₂.heap[k]? := fun k h1 h2 => (hx6.other k (by omega) h2).trans (HB5.out.block k h1)
    refine ⟨⟨Nat.le_trans hsz5 hx6.size, hq _ (by omega) (by omega), hq _ (by omega) (by omega)⟩, hq _ (by omega) (by omega), _, ns ++ [n], f6, ?_, ?_, ?_⟩
    · have := HO5.out.excP hx6 (by omega)
      rw [List.length_append, i3] at this
      exact this
    · rw [List.length_append, List.length_append, i3]; rfl
    · exact bX (i4.trans (HB5.out.mono (by omega))) hx6 (Nat.le_refl _)
  case done =>
    rintro D xs W hD hS hi hK
    obtain ⟨v, ns, i1, i2, i3, i4⟩ := hi
    obtain ⟨A', c', rfl, hr⟩ := i2.rd
    obtain ⟨z1, z2, z3⟩ := rcell i1
    have HS := hide hS
    clear hS
    go_wp2_with fail
    have hp := turned_put W D (.deferred none)
    refine marks_ret rfl hK (v := .tuple #[.slice A' xs.length c', .int .i64 0]) (by simp [results, Tryd.results70, go_sem]; try rfl) ⟨A', xs.length, c', rfl, HS, ?_⟩
    exact i4.trans (hp.low (by omega))
  case stop =>
    rintro D c' pre W hD _ hf hK
    exact hf.elim
set_option maxRecDepth 100000 in
theorem pmc_tells (A : Option Addr) (c n p : Nat) (Q : Nat → Prop) (w : World)
    (c0 : ∀ w1, Below w.heap.size w w1 → Calls Tryd.prog 27 #[.slice A n c] w1 fun e w' => e = .returned (.int .i64 0) ∧ Below w1.heap.size w1 w')
    (c1 : ∀ w1, Below w.heap.size w w1 → Calls Tryd.prog 70 #[.pointer (some ⟨p, 0, none⟩)] w1 fun e w' => ∃ A' k c', e = .returned (.tuple #[.slice A' k c', .int .i64 0]) ∧ Hid (Q k) ∧ Below w1.heap.size w1 w') :
    Calls Tryd.prog 69 #[.slice A n c, .func (Fn.func 70) #[] #[.pointer (some ⟨p, 0, none⟩)]] w fun e w' => ∃ A' k c', e = .returned (.tuple #[.slice A' k c', .int .i64 0]) ∧ Hid (Q k) ∧ Below w.heap.size w w' := by
  go_enter Tryd.func69, Tryd.ntmps69
  go_wp2_with fail
  refine (c0 _ (b0 w)).mono ?_
  rintro e w1 ⟨rfl, hb1⟩
  have hB1 := bB (b0 w) hb1
  go_wp2_with fail
  refine (c1 _ hB1).mono ?_
  rintro e w2 ⟨A', k, c', rfl, hQ, hb2⟩
  go_wp2
  go_ret2
  exact ⟨A', k, c', rfl, hQ, bB hB1 hb2⟩

set_option maxRecDepth 100000 in
theorem pmc_Cut_yes (A : Option Addr) (c : Nat) (l : List Bd) (h : okB l = true) (w : World) (hR : BR w A c l) :
    Calls Tryd.prog 35 #[.slice A l.length c] w fun e w' => ∃ A' k c', e = .returned (.tuple #[.slice A' k c', .int .i64 0]) ∧ Hid (Parts k l) ∧ Below w.heap.size w w' := by
  obtain ⟨k0, k1, k2⟩ := okB_spec h
  have hmf : ∀ (fn : Fn) (first cap : Array Value) (w : World), (Instr.makeFunc fn first cap).run Tryd.prog w = .ok (.func fn first cap) w := fun _ _ _ _ => rfl
  have cc := fun w hR => pmc_Check A c l w hR
  rw [chE_yes h] at cc
  have ct := fun (W0 : World) (hb0 : Below w.heap.size w W0) (hp : W0.heap[w.heap.size]? = some (.cells #[.slice A l.length c] 22 (0, 0))) => pmc_tells A c l.length w.heap.size (fun k => Parts k l) W0 (fun w1 hb => cc w1 (hR.below (bB hb0 hb))) (fun w1 hb => pmc_Cut1 w.heap.size c A l k2 k1 k0 w1 (kp hb hp) (hR.below (bB hb0 hb)))
  clear cc
  go_enter Tryd.func35, Tryd.ntmps35
  go_wp2_with fail
  refine (ct _ (bA (b0 w) (.cells #[.slice A l.length c] 22)) (na w #[.slice A l.length c] 22)).mono ?_
  rintro e w2 ⟨A', k, c', rfl, hQ, hb2⟩
  go_wp2
  go_ret2
  exact ⟨A', k, c', rfl, hQ, bB (bA (b0 w) (.cells #[.slice A l.length c] 22)) hb2⟩
end Go.Proofs.YtpimkigbdjfjoaaDoor
