/- For regions that draw their order: what stands behind whichever operations are done. No program is imported. For regions that draw their order: every order. No program is imported. For regions that draw their order: the whole region. No program is imported. Every step. No program is imported. The wh -/
import Derived.Test.YtlnonecibpjcoaaGreatDoorEc
set_option linter.unusedSimpArgs false
set_option linter.unusedVariables false
set_option linter.unusedSectionVars false
namespace Go.Proofs.Ex
variable [Sg]
open Go.RowKit

/-- what the check of a region says -/
structure RegOK (ops : Array Oper) (ms : List Nat) : Prop where
  back : ∀ (i : Nat) (o : Oper), ops[i]? = some o → ∀ e ∈ o.after.toList, Region.binds .any e = true → e.on < i
  uniq : ∀ (i j : Nat) (o q : Oper) (d : Tmp), ops[i]? = some o → ops[j]? = some q → o.dst = some d → q.dst = some d → i = j
  looks : ∀ (i j : Nat) (o q : Oper) (d : Tmp), ops[i]? = some o → ops[j]? = some q → q.dst = some d → d ∈ o.looksAt ops → (ms.getD i 0).testBit j = true ∨ (ms.getD j 0).testBit i = true

theorem regOK_sound {ops : Array Oper} {ms : List Nat} (h : regOK ops ms = true) : RegOK ops ms := by
  unfold regOK at h
  simp only at h
  have mem : ∀ (i : Nat) (o : Oper), ops[i]? = some o → (o, i) ∈ ops.toList.zipIdx := by
    intro i o ho
    rw [List.mem_zipIdx_iff_getElem?]
    simpa using ho
  have A := List.all_eq_true.1 h
  refine ⟨fun i o ho e he hb => ?_, fun i j o q d ho hq h1 h2 => ?_, fun i j o q d ho hq hd hl => ?_⟩
  · have := A (o, i) (mem i o ho)
    simp only [Bool.and_eq_true] at this
    have h3 := List.all_eq_true.1 this.1 e he
    rw [hb] at h3
    simp only [Bool.not_true, Bool.false_or] at h3
    exact blt_lt h3
  · have := A (o, i) (mem i o ho)
    simp only [Bool.and_eq_true] at this
    have h3 := List.all_eq_true.1 this.2 (q, j) (mem j q hq)
    simp only [h2] at h3
    rw [Bool.and_eq_true] at h3
    have h4 := h3.1
    rw [Bool.or_eq_true] at h4
    rcases h4 with h4 | h4
    · exact Nat.eq_of_beq_eq_true h4
    · rw [h1] at h4; simp at h4
  · have := A (o, i) (mem i o ho)
    simp only [Bool.and_eq_true] at this
    have h3 := List.all_eq_true.1 this.2 (q, j) (mem j q hq)
    simp only [hd] at h3
    rw [Bool.and_eq_true] at h3
    have h4 := h3.2
    rw [Bool.or_eq_true, Bool.or_eq_true] at h4
    rcases h4 with h4 | h4
    · exact h4
    · have := List.all_eq_true.1 h4 d hl
      rw [beq_rfl] at this; cases this

theorem least_eff {T : Nat → DK} {c i : Nat} (h : ∃ e, c ≤ e ∧ e < i ∧ isEff T e) : ∃ e, c ≤ e ∧ e < i ∧ isEff T e ∧ ∀ k, c ≤ k → k < e → ¬ isEff T k := by
  obtain ⟨e, h1, h2, h3⟩ := h
  induction e using Nat.strongRecOn with
  | ind e ih =>
    by_cases hx : ∃ k, c ≤ k ∧ k < e ∧ isEff T k
    · obtain ⟨k, a, b, d⟩ := hx
      exact ih k b a (by omega) d
    · exact ⟨e, h1, h2, h3, fun k a b d => hx ⟨k, a, b, d⟩⟩

theorem loadA_single {L : Lk} {h : Tr AO} {t : TypeId} {a v : Value} (he : loadA L h t a = some v) : ∃ b ob, h.get b = some ob ∧ loadA L ((Tr.nil : Tr AO).set b ob) t a = some v := by
  unfold loadA at he
  split at he
  · rename_i b off
    split at he
    · cases he
    · rename_i ti hti
      split at he
      · rename_i c z zs n cp e hg
        refine ⟨b, _, hg, ?_⟩
        unfold loadA
        simp only [hti]
        rw [Tr.get_set, if_pos rfl]
        exact he
      · rename_i c z zs es j e hg
        refine ⟨b, _, hg, ?_⟩
        unfold loadA
        simp only [hti]
        rw [Tr.get_set, if_pos rfl]
        exact he
      · cases he
  · cases he

section
variable {P : Program} {L : Lk} {rec : S → Option S} {ops : Array Oper} {ms : List Nat} {nt : Nat} {D : Nat → DS} {V : Nat → Value} {T : Nat → DK}

/-- What stands behind the operations 'ls'. 'c': behind the last one that does something. -/
structure Inv (ops : Array Oper) (ms : List Nat) (nt : Nat) (D : Nat → DS) (V : Nat → Value) (T : Nat → DK) (F : Nat → Prop) (w0 : World) (lim : Nat) (E0 : Env) (df : List Deferred) (kd : Bool) (rd rd' : Option Nat)
    (ls : Nat → Prop) (c : Nat) (E : Env) (w : World) (hk : Tr AO) (tmS : Tr Value) (t : Array Value) (d : List Deferred) : Prop where
  lt : ∀ k, ls k → k < ops.size
  cle : c ≤ ops.size
  c0 : c = 0 ∨ ∃ e, c = e + 1 ∧ isEff T e ∧ ls e
  c1 : ∀ e, isEff T e → ls e → e < c
  c2 : ∀ e, isEff T e → e < c → ls e
  sub : Sub (D c).h hk
  fl : ∀ k ob, ls k → T k = .new ob → (∀ e, isEff T e → e < c → (ms.getD e 0).testBit k = false) → hk.get (D k).nx = some ob
  sit : Sit F w0 lim E hk (D ops.size).nx w
  fresh : ∀ k, k < ops.size → ¬ ls k → ∀ id, (D k).nx ≤ id → id < (D (k + 1)).nx → E.ρ id = none ∧ E.κ id = none
  tm : TmR E tmS nt t
  tm1 : ∀ (k : Nat) (o : Oper) (x : Tmp), ls k → ops[k]? = some o → o.dst = some x → tmS.get x = some (V k)
  tm0 : ∀ (x : Tmp), (∀ (k : Nat) (o : Oper), ls k → ops[k]? = some o → o.dst ≠ some x) → tmS.get x = (D 0).tm.get x
  clo : ∀ k, ls k → ∀ j, (ms.getD k 0).testBit j = true → ls j
  ext : Ext E0 E (D 0).nx (D ops.size).nx
  dfr : DefsR E df d
  rdr : RdR E rd rd'

variable (hL : LkOK P L) (hrec : Good P rec) (hD : ∀ j o, ops[j]? = some o → DStep P L rec ops ms nt j o (D j) (D (j + 1)) (V j) (T j)) (hR : RegOK ops ms)
  (hfl0 : (D 0).fl = []) (hhist0 : (D 0).hist = []) (hmlt : ∀ i j, (ms.getD i 0).testBit j = true → j < i)
  {F : Nat → Prop} {w0 : World} {lim : Nat} {E0 : Env} {df : List Deferred} {kd : Bool} {rd rd' : Option Nat} {cs : List Frame} {fn : FuncId} {kk : List Item}
  (hlim : (D ops.size).nx ≤ lim) (hup : UpR kd cs)
include hL hrec hD hR hfl0 hhist0 hmlt hlim hup

theorem draw_step {ls : Nat → Prop} {c : Nat} {E : Env} {w : World} {hk : Tr AO} {tmS : Tr Value} {t : Array Value} {d : List Deferred} (I : Inv ops ms nt D V T F w0 lim E0 df kd rd rd' ls c E w hk tmS t d)
    {i : Nat} {o : Oper} (ho : ops[i]? = some o) (hni : ¬ ls i) (hready : ∀ j, (ms.getD i 0).testBit j = true → ls j) (hdom : isEff T i → ∀ id, (D i).nx ≤ id → id < lim → (D i).h.get id = none) {opsM : Array Oper} (hM : opsM[i]? = some o ∧ ∀ tm, guardOf tm opsM o.guard = guardOf tm ops o.guard) (rest : List Nat) :
    ∃ c' E' w' hk' tm' t' d', Steps P (lone ⟨fn, t, .inRegion opsM (i :: rest) :: kk, d, .run, kindOf kd, rd'⟩ cs w) (lone ⟨fn, t', .inRegion opsM rest :: kk, d', .run, kindOf kd, rd'⟩ cs w') ∧
      Inv ops ms nt D V T F w0 lim E0 df kd rd rd' (fun k => ls k ∨ k = i) c' E' w' hk' tm' t' d' := by
  have hin : i < ops.size := (Array.getElem?_eq_some_iff.1 ho).1
  have hs := hD i o ho
  -- what the operation looks at is known
  have agree : ∀ x, x ∈ o.looksAt ops → tmS.get x = (D i).tm.get x := by
    intro x hx
    by_cases hw : ∃ (j : Nat) (q : Oper), ops[j]? = some q ∧ q.dst = some x
    · obtain ⟨j, q, hj, hq⟩ := hw
      rcases hR.looks i j o q x ho hj hq hx with hb | hb
      rotate_left
      · have hij := hmlt j i hb
        have hnj : ¬ ls j := fun hl => hni (I.clo j hl i hb)
        rw [I.tm0 x (fun k o2 hk h3 h4 => by
          have := hR.uniq k j o2 q x h3 hj h4 hq
          subst this
          exact hnj hk), tm_same hD i (Nat.zero_le _) (by omega) (fun k o2 h1 h2 h3 h4 => by
          have := hR.uniq k j o2 q x h3 hj h4 hq
          omega)]
      have hji := hmlt i j hb
      rw [I.tm1 j q x (hready j hb) hj hq, tm_same hD i (by omega) (by omega) (i := j + 1) (d := x) (fun k o2 h1 h2 h3 h4 => by
        have := hR.uniq k j o2 q x h3 hj h4 hq; omega), tm_put hD hj hq]
    · rw [I.tm0 x (fun k o2 _ h3 h4 => hw ⟨k, o2, h3, h4⟩), tm_same hD i (Nat.zero_le _) (by omega) (fun k o2 _ _ h3 h4 => hw ⟨k, o2, h3, h4⟩)]
  have hg : guardOf tmS ops o.guard = guardOf (D i).tm ops o.guard := guardOf_congr fun j b oj x h1 h2 h3 => agree x (by
    unfold Oper.looksAt
    rw [h1]
    simp [h2, h3])
  have ha : ∀ h nx, aop P L tmS h nx o.op = aop P L (D i).tm h nx o.op := fun h nx => aop_congr o.op fun x hx => agree x (by
    unfold Oper.looksAt
    refine List.mem_append_left _ ?_
    rw [List.mem_filterMap]
    exact ⟨_, hx, rfl⟩)
  obtain ⟨tm', htm'⟩ := putT_other (tm2 := tmS) (step_put hs)
  have hnx := step_nx hL hrec hs
  have hnn : (D (i + 1)).nx ≤ (D ops.size).nx := nx_mono hD hL hrec _ (by omega) (Nat.le_refl _)
  -- the frame around it
  have FIN : ∀ {hsub h1 hk1 : Tr AO} {c' : Nat}, Sub hsub hk → opA P L rec kd rd ops nt o.dst o.op o.guard tmS hsub (D i).nx df (fun g => some g) = some ⟨tm', h1, (D (i + 1)).nx, df⟩ →
      (∀ id ob, hk1.get id = some ob → h1.get id = some ob ∨ (hk.get id = some ob ∧ hsub.get id = none)) →
      c' ≤ ops.size → (c' = 0 ∨ ∃ e, c' = e + 1 ∧ isEff T e ∧ (ls e ∨ e = i)) → (∀ e, isEff T e → (ls e ∨ e = i) → e < c') → (∀ e, isEff T e → e < c' → (ls e ∨ e = i)) → ((∀ id ob, hk.get id = some ob → hsub.get id = none → h1.get id = none) → Sub (D c').h hk1) →
      (∀ k ob, (ls k ∨ k = i) → T k = .new ob → (∀ e, isEff T e → e < c' → (ms.getD e 0).testBit k = false) → hk1.get (D k).nx = some ob) →
      ∃ c' E' w' hk' tm' t' d', Steps P (lone ⟨fn, t, .inRegion opsM (i :: rest) :: kk, d, .run, kindOf kd, rd'⟩ cs w) (lone ⟨fn, t', .inRegion opsM rest :: kk, d', .run, kindOf kd, rd'⟩ cs w') ∧
        Inv ops ms nt D V T F w0 lim E0 df kd rd rd' (fun k => ls k ∨ k = i) c' E' w' hk' tm' t' d' := by
    intro hsub h1 hk1 c' hsb hop hrest q0 q1 q2 q3 q4 q5
    have hop' : opA P L rec kd rd opsM nt o.dst o.op o.guard tmS hsub (D i).nx df (fun g => some g) = some ⟨tm', h1, (D (i + 1)).nx, df⟩ := by
      rw [← hop]; unfold opA; rw [hM.2]
    obtain ⟨g, hgg, hOS⟩ := opA_sound (i := i) (rest := rest) hL hrec hM.1 hop'
    cases hgg
    obtain ⟨_, hrun⟩ := hOS
    have S1 := I.sit.sub hsb (a := (D i).nx) (b := (D (i + 1)).nx) (I.fresh i hin hni)
    obtain ⟨E', w', t', d', x1, x2, x3, x4, x5⟩ := hrun _ w (D (i + 1)).nx E w fn t kk d rd' cs (Nat.le_refl _) S1 I.tm I.dfr I.rdr hup
    have hapart : ∀ id ob, hk.get id = some ob → hsub.get id = none → h1.get id = none := by
      intro id ob e1 e2
      cases hq : h1.get id with
      | none => rfl
      | some o1 =>
        obtain ⟨b1, _, r1, _, _⟩ := x3.hr id o1 hq
        obtain ⟨b0, _, r0, _, _⟩ := I.sit.hr id ob e1
        have := x1.1.1 _ _ r0
        rw [r1] at this; cases this
        exact absurd (.inr ⟨id, ob, e1, e2, r0⟩) (x3.away id o1 b1 hq r1)
    have q4 := q4 hapart
    have hother : ∀ id, (id < (D i).nx ∨ (D (i + 1)).nx ≤ id) → E'.ρ id = E.ρ id ∧ E'.κ id = E.κ id := x1.2
    refine ⟨c', E', w', hk1, tm', t', d', x2, fun k hk => ?_, q0, q1, q2, q3, q4, q5, ?_, fun k hk hnk id h3 h4 => ?_, x4, fun k o2 x hkl hk2 hx => ?_, fun x hx => ?_, fun k hkl j hj => ?_, ?_, x5, I.rdr.mono x1.1⟩
    · rcases hk with h | h
      · exact I.lt k h
      · omega
    · refine I.sit.rejoin (a := 0) x1.1 x3 hrest fun id h3 h4 => ?_
      have := I.sit.fresh id h3 h4
      have e := hother id (.inr (by omega))
      exact ⟨e.1.trans this.1, e.2.trans this.2⟩
    · have hne : k ≠ i := fun e => hnk (.inr e)
      have := I.fresh k hk (fun h => hnk (.inl h)) id h3 h4
      have e := hother id (by
        rcases Nat.lt_or_ge k i with h | h
        · have := nx_mono hD hL hrec i (show k + 1 ≤ i by omega) (by omega); omega
        · have := nx_mono hD hL hrec k (show i + 1 ≤ k by omega) (by omega); omega)
      exact ⟨e.1.trans this.1, e.2.trans this.2⟩
    · rcases hkl with h | h
      · rw [(putT_get htm' x).2 (fun e => by
          have := hR.uniq i k o o2 x ho hk2 e hx
          subst this; exact hni h)]
        exact I.tm1 k o2 x h hk2 hx
      · subst h
        rw [ho] at hk2; cases hk2
        exact (putT_get htm' x).1 hx
    · rw [(putT_get htm' x).2 (hx i o (.inr rfl) ho)]
      exact I.tm0 x fun k o2 h => hx k o2 (.inl h)
    · rcases hkl with h | h
      · exact .inl (I.clo k h j hj)
      · subst h; exact .inl (hready j hj)
    · refine ⟨Env.le_trans I.ext.1 x1.1, fun id hid => ?_⟩
      have h0 := nx_mono hD hL hrec i (Nat.zero_le _) (by omega)
      have e1 := I.ext.2 id hid
      have e2 := hother id (by omega)
      exact ⟨e2.1.trans e1.1, e2.2.trans e1.2⟩
  -- operations that do nothing
  have QUIET : ¬ isEff T i → (∀ {hsub h1 : Tr AO}, Sub hsub hk → opA P L rec kd rd ops nt o.dst o.op o.guard tmS hsub (D i).nx df (fun g => some g) = some ⟨tm', h1, (D (i + 1)).nx, df⟩ → Sub hsub h1 → (∀ ob, T i ≠ .new ob) →
      ∃ c' E' w' hk' tm' t' d', Steps P (lone ⟨fn, t, .inRegion opsM (i :: rest) :: kk, d, .run, kindOf kd, rd'⟩ cs w) (lone ⟨fn, t', .inRegion opsM rest :: kk, d', .run, kindOf kd, rd'⟩ cs w') ∧
        Inv ops ms nt D V T F w0 lim E0 df kd rd rd' (fun k => ls k ∨ k = i) c' E' w' hk' tm' t' d') := by
    intro hne hsub h1 hsb hop hss hnn
    refine FIN (hk1 := hk) (c' := c) hsb hop (fun id ob hid => ?_) I.cle (I.c0.imp id fun ⟨e, a, b, z⟩ => ⟨e, a, b, .inl z⟩) (fun e a b => ?_) (fun e a b => .inl (I.c2 e a b)) (fun _ => I.sub) (fun k ob hkl hT hu => ?_)
    · cases hq : hsub.get id with
      | none => exact .inr ⟨hid, rfl⟩
      | some ob2 =>
        have := hsb id ob2 hq
        rw [hid] at this; cases this
        exact .inl (hss id ob hq)
    · rcases b with b | b
      · exact I.c1 e a b
      · subst b; exact absurd a hne
    · rcases hkl with h | h
      · exact I.fl k ob h hT hu
      · subst h; exact absurd hT (hnn ob)
  have notE : ∀ {y : DK}, T i = y → y ≠ .eff → ¬ isEff T i := fun h1 h2 h3 => h2 (h1 ▸ isEff_iff.1 h3)
  -- what is known of a number that stands for nothing yet
  have unk : ∀ id, (D i).nx ≤ id → id < (D (i + 1)).nx → hk.get id = none := by
    intro id h1 h2
    cases hq : hk.get id with
    | none => rfl
    | some ob =>
      obtain ⟨b, _, r, _, _⟩ := I.sit.hr id ob hq
      rw [(I.fresh i hin hni id h1 h2).1] at r; cases r
  cases hT : T i with
  | skip =>
    rw [hT] at hs
    obtain ⟨_, s2, s3, s4, _⟩ := hs
    refine QUIET (notE hT (by simp)) (hsub := .nil) (h1 := .nil) (fun id ob h => by cases h) ?_ (fun id ob h => by cases h) (fun ob e => by rw [hT] at e; cases e)
    unfold opA
    rw [hg, s2]
    simp only [cond_false, putG]
    rw [← s3, htm', s4]
  | pure =>
    rw [hT] at hs
    obtain ⟨_, s2, ⟨h1, s3⟩, s4, _⟩ := hs
    refine QUIET (notE hT (by simp)) (hsub := .nil) (h1 := h1) (fun id ob h => by cases h) ?_ (fun id ob h => by cases h) (fun ob e => by rw [hT] at e; cases e)
    unfold opA
    rw [hg, s2, ha, s3]
    simp only [cond_true, doneA, putG]
    rw [htm', s4]
  | new ob =>
    rw [hT] at hs
    obtain ⟨_, s2, ⟨h1, s3, s3b⟩, s4, _⟩ := hs
    have hun := unk (D i).nx (Nat.le_refl _) (by omega)
    refine FIN (hsub := .nil) (h1 := h1) (hk1 := hk.set (D i).nx ob) (c' := c) (fun id ob h => by cases h) ?_ (fun id ob2 hid => ?_) I.cle (I.c0.imp id fun ⟨e, a, b, z⟩ => ⟨e, a, b, .inl z⟩) (fun e a b => ?_) (fun e a b => .inl (I.c2 e a b)) (fun _ id ob2 hid => ?_) (fun k ob2 hkl hT2 hu => ?_)
    · unfold opA
      rw [hg, s2, ha, s3]
      simp only [cond_true, doneA, putG]
      rw [htm', s4]
    · rw [Tr.get_set] at hid
      split at hid
      · rename_i e; cases hid; subst e; exact .inl s3b
      · exact .inr ⟨hid, rfl⟩
    · rcases b with b | b
      · exact I.c1 e a b
      · subst b; exact absurd a (notE hT (by simp))
    · have := I.sub id ob2 hid
      rw [Tr.get_set, if_neg (fun e => by subst e; rw [hun] at this; cases this)]
      exact this
    · rw [Tr.get_set]
      rcases hkl with h | h
      · have := I.fl k ob2 h hT2 hu
        rw [if_neg (fun e => by rw [e, hun] at this; cases this)]
        exact this
      · subst h
        rw [hT] at hT2; cases hT2
        rw [if_pos rfl]
  | load ty av =>
    rw [hT] at hs
    obtain ⟨_, s2, ⟨a, s3, s3b⟩, s4, s5, s6, _⟩ := hs
    have hload : loadA L (D c).h ty av = some (V i) := by
      rcases Nat.lt_or_ge i c with hic | hic
      · obtain ⟨e, e1, e2, e3⟩ := I.c0.resolve_left (by omega)
        have hei : e ≠ i := fun x => hni (x ▸ e3)
        have hlt : i < e := by omega
        have hee : e < ops.size := I.lt e e3
        have hse := hD e ops[e] (by simp [hee])
        rw [isEff_iff.1 e2] at hse
        have hmem := lds_mem hD hT e hlt (by omega)
        rcases hse.2.2.2.2.2.1 i ty av (V i) hmem with hb | hb
        · exact absurd (I.clo e e3 i hb) hni
        · rw [e1]; exact hb
      · by_cases hex : ∃ e, c ≤ e ∧ e < i ∧ isEff T e
        · obtain ⟨e, h1, h2, h3, hmin⟩ := least_eff hex
          have hnl : ¬ ls e := fun h => by have := I.c1 e h3 h; omega
          rcases s5 e (D e).h (hist_mem hD h3 i h2 (by omega)) with hb | hb
          · exact absurd (hready e hb) hnl
          · rw [← h_same hD e h1 (by omega) (fun k a b => hmin k a b)]; exact hb
        · rw [← h_same hD i hic (by omega) (fun k a b x => hex ⟨k, a, b, x⟩)]; exact s4
    obtain ⟨b, ob, hb1, hb2⟩ := loadA_single hload
    refine QUIET (notE hT (by simp)) (hsub := (Tr.nil : Tr AO).set b ob) (h1 := (Tr.nil : Tr AO).set b ob) (fun id ob2 h => ?_) ?_ (fun id ob h => h) (fun ob e => by rw [hT] at e; cases e)
    · rw [Tr.get_set] at h
      split at h
      · rename_i e; cases h; subst e; exact I.sub _ _ hb1
      · cases h
    · unfold opA
      rw [hg, s2, ha, s3]
      simp only [cond_true, aop, aop0, aLoad, s3b, hb2, vR, doneA, putG]
      rw [htm', s6]
  | eff =>
    have hie : isEff T i := isEff_iff.2 hT
    rw [hT] at hs
    obtain ⟨_, s2, s3, s4, ⟨r, s5, s6⟩, s7, s8, s9, s10⟩ := hs
    have hci : c ≤ i := by
      rcases I.c0 with h | ⟨e, e1, e2, e3⟩
      · omega
      · rcases Nat.lt_or_ge e i with h | h
        · omega
        · have : e ≠ i := fun x => hni (x ▸ e3)
          exact absurd (I.c2 i hie (by omega)) hni
    have hbetween : ∀ k, c ≤ k → k < i → ¬ isEff T k := by
      intro k h1 h2 h3
      rcases hist_head hD hhist0 i (by omega) with ⟨_, hn⟩ | ⟨e, hb, rest, hh, he, hei, hafter⟩
      · exact hn k h2 h3
      · have hle : ls e := hready e (s3 e hb rest hh)
        have hec := I.c1 e he hle
        exact hafter k (by omega) h2 h3
    have hsame : (D i).h = (D c).h := h_same hD i hci (by omega) hbetween
    have hflk : ∀ x ∈ (D i).fl, (ms.getD i 0).testBit x.1 = true → hk.get x.2.1 = some x.2.2 := by
      intro x hx hb
      obtain ⟨ob, a1, a2, a3, a4⟩ := fl_inv hD hfl0 i (by omega) x hx
      have := I.fl x.1 ob (hready x.1 hb) a1 (fun e b1 b2 => by
        rcases Nat.lt_or_ge x.1 e with h | h
        · exact a4 e h (by omega) b1
        · cases hq : (ms.getD e 0).testBit x.1 with
          | false => rfl
          | true => have := hmlt e x.1 hq; omega)
      rw [a3]; exact this
    have hsub : Sub (effH ms i (D i)) hk := by
      intro id ob hid
      unfold effH at hid
      rcases setFl_get ((D i).fl.filter (fun x => (ms.getD i 0).testBit x.1)) (D i).h id with ⟨x, hx, e1, e2⟩ | ⟨e1, e2⟩
      · rw [e2] at hid; cases hid
        rw [List.mem_filter] at hx
        rw [← e1]; exact hflk x hx.1 hx.2
      · rw [e2, hsame] at hid
        exact I.sub id ob hid
    have hop : opA P L rec kd rd ops nt o.dst o.op o.guard tmS (effH ms i (D i)) (D i).nx df (fun g => some g) = some ⟨tm', (D (i + 1)).h, (D (i + 1)).nx, df⟩ := by
      unfold opA
      rw [hg, s2, ha, s5]
      simp only [cond_true, doneA]
      cases r with
      | val v2 h2 n2 =>
        simp only [resOf, Option.some.injEq, Prod.mk.injEq] at s6
        obtain ⟨g1, g2, g3⟩ := s6
        simp only [putG]
        rw [g1, htm', g2, g3]
      | enter f args =>
        simp only [resOf] at s6
        simp only [putG, s6]
        rw [htm']
      | round l args =>
        simp only [resOf] at s6
        simp only [putG, s6]
        rw [htm']
      | defer d => cases s6
      | recover => cases s6
      | panic v => cases s6
    -- the blocks that stay beside it
    have hout : ∀ k ob, ls k → T k = .new ob → (∀ e, isEff T e → e < i + 1 → (ms.getD e 0).testBit k = false) → hk.get (D k).nx = some ob ∧ (effH ms i (D i)).get (D k).nx = none := by
      intro k ob hkl hTk hu
      refine ⟨I.fl k ob hkl hTk fun e a b => hu e a (by omega), ?_⟩
      have hkn := I.lt k hkl
      have hki : k ≠ i := fun e => by rw [e, hT] at hTk; cases hTk
      rcases Nat.lt_or_ge k i with h | h
      · rcases s4 _ (fl_mem hD hTk i h (by omega) fun e a b z => hu e z (by omega)) with hb | hb
        · rw [hu i hie (by omega)] at hb; cases hb
        · exact hb
      · have hk1 : (D (k + 1)).nx = (D k).nx + 1 := by
          have := hD k ops[k] (by simp [hkn])
          rw [hTk] at this
          exact this.2.2.2.1
        have hkk := nx_mono hD hL hrec (k + 1) (show i + 1 ≤ k + 1 by omega) (by omega)
        have hkN := nx_mono hD hL hrec ops.size (show k + 1 ≤ ops.size by omega) (Nat.le_refl _)
        have hik := nx_mono hD hL hrec k (show i ≤ k by omega) (by omega)
        unfold effH
        rcases setFl_get ((D i).fl.filter (fun x => (ms.getD i 0).testBit x.1)) (D i).h (D k).nx with ⟨x, hx, e1, e2⟩ | ⟨e1, e2⟩
        · exfalso
          rw [List.mem_filter] at hx
          obtain ⟨ob2, a1, a2, a3, _⟩ := fl_inv hD hfl0 i (by omega) x hx.1
          have hx1 : (D (x.1 + 1)).nx = (D x.1).nx + 1 := by
            have := hD x.1 ops[x.1] (by simp)
            rw [a1] at this
            exact this.2.2.2.1
          have := nx_mono hD hL hrec i (show x.1 + 1 ≤ i by omega) (by omega)
          have h5 : x.2.1 = (D x.1).nx := by rw [a3]
          omega
        · rw [e2]
          exact hdom hie _ hik (by omega)
    classical
    let FL : List (Nat × Nat × AO) := (List.range ops.size).filterMap fun k => match T k with
      | .new ob => if ls k ∧ ∀ e, isEff T e → e < i + 1 → (ms.getD e 0).testBit k = false then some (k, (D k).nx, ob) else none
      | _ => none
    have hFL : ∀ x ∈ FL, ∃ ob, ls x.1 ∧ T x.1 = .new ob ∧ (∀ e, isEff T e → e < i + 1 → (ms.getD e 0).testBit x.1 = false) ∧ x.2 = ((D x.1).nx, ob) := by
      intro x hx
      rw [List.mem_filterMap] at hx
      obtain ⟨k, _, hk2⟩ := hx
      split at hk2
      · rename_i ob hTk
        split at hk2
        · rename_i hcond
          cases hk2
          exact ⟨ob, hcond.1, hTk, hcond.2, rfl⟩
        · cases hk2
      · cases hk2
    have hFLm : ∀ k ob, ls k → T k = .new ob → (∀ e, isEff T e → e < i + 1 → (ms.getD e 0).testBit k = false) → (k, (D k).nx, ob) ∈ FL := by
      intro k ob h1 h2 h3
      rw [List.mem_filterMap]
      exact ⟨k, by simpa using I.lt k h1, by rw [h2]; simp only; rw [if_pos ⟨h1, h3⟩]⟩
    refine FIN (hsub := effH ms i (D i)) (h1 := (D (i + 1)).h) (hk1 := setFl (D (i + 1)).h FL) (c' := i + 1) hsub hop (fun id ob hid => ?_) (by omega) (.inr ⟨i, rfl, hie, .inr rfl⟩) (fun e a b => ?_) (fun e a b => ?_) (fun hap id ob hid => ?_) (fun k ob hkl hTk hu => ?_)
    · rcases setFl_get FL (D (i + 1)).h id with ⟨x, hx, e1, e2⟩ | ⟨e1, e2⟩
      · rw [e2] at hid; cases hid
        obtain ⟨ob2, a1, a2, a3, a4⟩ := hFL x hx
        obtain ⟨g1, g2⟩ := hout x.1 ob2 a1 a2 a3
        rw [a4] at e1 ⊢
        simp only at e1 ⊢
        subst e1
        exact .inr ⟨g1, g2⟩
      · rw [e2] at hid; exact .inl hid
    · rcases b with b | b
      · have := I.c1 e a b; omega
      · omega
    · by_cases hei : e = i
      · exact .inr hei
      · left
        rcases Nat.lt_or_ge e c with h | h
        · exact I.c2 e a h
        · exact absurd a (hbetween e h (by omega))
    · rcases setFl_get FL (D (i + 1)).h id with ⟨x, hx, e1, e2⟩ | ⟨e1, e2⟩
      · exfalso
        obtain ⟨ob2, a1, a2, a3, a4⟩ := hFL x hx
        obtain ⟨g1, g2⟩ := hout x.1 ob2 a1 a2 a3
        rw [a4] at e1
        simp only at e1
        subst e1
        rw [hap _ _ g1 g2] at hid; cases hid
      · rw [e2]; exact hid
    · rcases hkl with h | h
      · rcases setFl_get FL (D (i + 1)).h (D k).nx with ⟨x, hx, e1, e2⟩ | ⟨e1, e2⟩
        · obtain ⟨ob2, a1, a2, a3, a4⟩ := hFL x hx
          obtain ⟨g1, g2⟩ := hout x.1 ob2 a1 a2 a3
          obtain ⟨k1, k2⟩ := hout k ob h hTk hu
          rw [e2, a4]
          rw [a4] at e1
          simp only at e1 ⊢
          rw [e1, k1] at g1
          cases g1; rfl
        · exact absurd rfl (e1 _ (hFLm k ob h hTk hu))
      · subst h; rw [hT] at hTk; cases hTk
end
end Go.Proofs.Ex

namespace Go.Proofs.Ex
variable [Sg]
open Go.RowKit

/-! what each waits for -/
theorem maskA_bit (acc : List Nat) : ∀ (es : List Edge) (s j : Nat), (es.foldl (fun s e => cond (Region.binds .any e) (Nat.lor s (Nat.lor (2 ^ e.on) (acc.getD e.on 0))) s) s).testBit j = true →
    s.testBit j = true ∨ ∃ e ∈ es, Region.binds .any e = true ∧ (e.on = j ∨ (acc.getD e.on 0).testBit j = true) := by
  intro es
  induction es with
  | nil => intro s j h; exact .inl h
  | cons e es ih =>
    intro s j h
    rw [List.foldl_cons] at h
    rcases ih _ j h with h1 | ⟨e2, a, b, c⟩
    · cases hb : Region.binds .any e with
      | false => rw [hb] at h1; exact .inl h1
      | true =>
        rw [hb] at h1
        simp only [cond_true] at h1
        have h2 : (s ||| (2 ^ e.on ||| acc.getD e.on 0)).testBit j = true := h1
        rw [Nat.testBit_or, Nat.testBit_or, Nat.testBit_two_pow] at h2
        simp only [Bool.or_eq_true, decide_eq_true_eq] at h2
        rcases h2 with h2 | h2 | h2
        · exact .inl h2
        · exact .inr ⟨e, List.mem_cons_self, hb, .inl h2⟩
        · exact .inr ⟨e, List.mem_cons_self, hb, .inr h2⟩
    · exact .inr ⟨e2, List.mem_cons_of_mem _ a, b, c⟩

theorem masksA_old : ∀ (l : List Oper) (acc : List Nat) (k : Nat), k < acc.length → (masksA l acc).getD k 0 = acc.getD k 0 := by
  intro l
  induction l with
  | nil => intro acc k _; rfl
  | cons o l ih =>
    intro acc k h
    simp only [masksA]
    rw [ih _ k (by simp; omega)]
    simp only [List.getD_eq_getElem?_getD]
    rw [List.getElem?_append_left h]
theorem masksA_len : ∀ (l : List Oper) (acc : List Nat), (masksA l acc).length = acc.length + l.length := by
  intro l
  induction l with
  | nil => intro acc; rfl
  | cons o l ih => intro acc; simp only [masksA]; rw [ih]; simp; omega
theorem masksA_at : ∀ (l : List Oper) (acc : List Nat) (j : Nat) (o : Oper), l[j]? = some o →
    ∃ acc' : List Nat, (∀ k, k < acc.length + j → acc'.getD k 0 = (masksA l acc).getD k 0) ∧ (masksA l acc).getD (acc.length + j) 0 = maskA acc' o.after.toList := by
  intro l
  induction l with
  | nil => intro acc j o h; simp at h
  | cons p l ih =>
    intro acc j o h
    cases j with
    | zero =>
      simp only [List.getElem?_cons_zero, Option.some.injEq] at h
      subst h
      refine ⟨acc, fun k hk => (masksA_old (p :: l) acc k (by omega)).symm, ?_⟩
      simp only [masksA]
      rw [masksA_old l _ _ (by simp)]
      simp [List.getD_eq_getElem?_getD]
    | succ j =>
      obtain ⟨acc', h1, h2⟩ := ih (acc ++ [maskA acc p.after.toList]) j o (by simpa using h)
      simp only [List.length_append, List.length_singleton] at h1 h2
      refine ⟨acc', fun k hk => ?_, ?_⟩
      · simp only [masksA]; exact h1 k (by omega)
      · simp only [masksA]; rw [← h2]; congr 1; omega

theorem mask_spec {ops : Array Oper} {i j : Nat} (hb : ((masksA ops.toList []).getD i 0).testBit j = true) (hback : ∀ (i : Nat) (o : Oper), ops[i]? = some o → ∀ e ∈ o.after.toList, Region.binds .any e = true → e.on < i) :
    ∃ o, ops[i]? = some o ∧ ∃ e ∈ o.after.toList, Region.binds .any e = true ∧ e.on < i ∧ (e.on = j ∨ ((masksA ops.toList []).getD e.on 0).testBit j = true) := by
  have hi : i < ops.size := by
    rcases Nat.lt_or_ge i ops.size with h | h
    · exact h
    · have : (masksA ops.toList []).getD i 0 = 0 := by
        rw [List.getD_eq_getElem?_getD, List.getElem?_eq_none (by rw [masksA_len]; simpa using h)]; rfl
      rw [this] at hb; simp at hb
  have ho : ops[i]? = some ops[i] := by simp [hi]
  obtain ⟨acc', h1, h2⟩ := masksA_at ops.toList [] i ops[i] (by simp)
  simp only [List.length_nil, Nat.zero_add] at h1 h2
  rw [h2] at hb
  rcases maskA_bit acc' _ 0 j hb with h | ⟨e, a, b, c⟩
  · simp at h
  · have he := hback i _ ho e a b
    exact ⟨_, ho, e, a, b, he, by rw [← h1 e.on he]; exact c⟩

theorem mask_lt {ops : Array Oper} (hback : ∀ (i : Nat) (o : Oper), ops[i]? = some o → ∀ e ∈ o.after.toList, Region.binds .any e = true → e.on < i) : ∀ i j, ((masksA ops.toList []).getD i 0).testBit j = true → j < i := by
  intro i
  induction i using Nat.strongRecOn with
  | ind i ih =>
    intro j hb
    obtain ⟨o, _, e, _, _, he, h⟩ := mask_spec hb hback
    rcases h with h | h
    · omega
    · have := ih e.on he j h; omega

/-! counting what is left -/
def left (n : Nat) (ls : Array Bool) : List Nat := (List.range n).filter fun k => !ls.getD k false
theorem filter_one {l : List Nat} (hn : l.Nodup) {i : Nat} (hi : i ∈ l) {p q : Nat → Bool} (hp : p i = true) (hq : ∀ k, q k = (p k && k != i)) : (l.filter q).length + 1 = (l.filter p).length := by
  induction l with
  | nil => cases hi
  | cons x l ih =>
    rw [List.nodup_cons] at hn
    by_cases hx : x = i
    · subst hx
      have h1 : q x = false := by rw [hq]; simp
      have h2 : l.filter q = l.filter p := List.filter_congr fun k hk => by
        rw [hq]
        have : k ≠ x := fun e => hn.1 (e ▸ hk)
        simp [this]
      rw [List.filter_cons_of_neg (by simp [h1]), List.filter_cons_of_pos hp, h2, List.length_cons]
    · have him : i ∈ l := by
        cases hi with
        | head => exact absurd rfl hx
        | tail _ h => exact h
      have h3 := ih hn.2 him
      have h4 : q x = p x := by rw [hq]; simp [hx]
      cases hpx : p x with
      | true => rw [List.filter_cons_of_pos (by rw [h4]; exact hpx), List.filter_cons_of_pos hpx]; simp; omega
      | false => rw [List.filter_cons_of_neg (by rw [h4, hpx]; simp), List.filter_cons_of_neg (by rw [hpx]; simp)]; exact h3
theorem left_set {n i : Nat} {ls : Array Bool} (hs : ls.size = n) (hi : i < n) (hl : ls.getD i false = false) : (left n (ls.setIfInBounds i true)).length + 1 = (left n ls).length := by
  refine filter_one List.nodup_range (i := i) (by simpa using hi) (by simp [hl]) fun k => ?_
  by_cases hk : k = i
  · subst hk
    have : k < ls.size := by omega
    simp [this]
  · have e : (ls.setIfInBounds i true).getD k false = ls.getD k false := by
      simp only [Array.getD_eq_getD_getElem?]
      rw [Array.getElem?_setIfInBounds_ne (Ne.symm hk)]
    rw [e]
    simp [hk]
end Go.Proofs.Ex

namespace Go.Proofs.Ex
variable [Sg]
open Go.RowKit

section
variable {P : Program} {L : Lk} {rec : S → Option S} {ops : Array Oper} {nt : Nat} {D : Nat → DS} {V : Nat → Value} {T : Nat → DK}
  (hL : LkOK P L) (hrec : Good P rec) (hD : ∀ j o, ops[j]? = some o → DStep P L rec ops (masksA ops.toList []) nt j o (D j) (D (j + 1)) (V j) (T j)) (hR : RegOK ops (masksA ops.toList []))
  (hfl0 : (D 0).fl = []) (hhist0 : (D 0).hist = [])
  {F : Nat → Prop} {w0 : World} {lim : Nat} {E0 : Env} {df : List Deferred} {kd : Bool} {rd rd' : Option Nat} {cs : List Frame} {fn : FuncId} {kk : List Item}
  (hlim : (D ops.size).nx ≤ lim) (hup : UpR kd cs)
include hL hrec hD hR hfl0 hhist0 hlim hup

/-- where all from 'i' on is to come, the heap has no number from there on -/
theorem dom_of {i : Nat} (hi : i ≤ ops.size) {c : Nat} {E : Env} {w : World} {hk : Tr AO} {tmS : Tr Value} {t : Array Value} {d : List Deferred}
    (I : Inv ops (masksA ops.toList []) nt D V T F w0 lim E0 df kd rd rd' (fun k => k < i) c E w hk tmS t d) : ∀ id, (D i).nx ≤ id → id < lim → (D i).h.get id = none := by
  intro id h1 h2
  have hc : c ≤ i := by
    rcases I.c0 with h | ⟨e, a, _, b⟩
    · omega
    · omega
  have hsame : (D i).h = (D c).h := h_same hD i hc hi fun k a b x => by have := I.c1 k x b; omega
  cases hq : (D i).h.get id with
  | none => rfl
  | some ob =>
    exfalso
    rw [hsame] at hq
    obtain ⟨b, _, r, _, _⟩ := I.sit.hr id ob (I.sub id ob hq)
    rcases Nat.lt_or_ge id (D ops.size).nx with h3 | h3
    · -- it lies in someone's part
      have key : ∀ j, i ≤ j → j ≤ ops.size → id < (D j).nx → ∃ k, i ≤ k ∧ k < ops.size ∧ (D k).nx ≤ id ∧ id < (D (k + 1)).nx := by
        intro j
        induction j with
        | zero => intro a _ b; have : i = 0 := by omega
                  subst this; omega
        | succ j ih =>
          intro a b z
          by_cases hij : i = j + 1
          · subst hij; omega
          · rcases Nat.lt_or_ge id (D j).nx with h4 | h4
            · exact ih (by omega) (by omega) h4
            · exact ⟨j, by omega, by omega, h4, z⟩
      obtain ⟨k, a1, a2, a3, a4⟩ := key ops.size hi (Nat.le_refl _) h3
      rw [(I.fresh k a2 (by omega) id a3 a4).1] at r; cases r
    · rw [(I.sit.fresh id h3 h2).1] at r; cases r

theorem canon {w : World} {hk : Tr AO} {tmS : Tr Value} {t : Array Value} {d : List Deferred} {E : Env} {c : Nat}
    (I : Inv ops (masksA ops.toList []) nt D V T F w0 lim E0 df kd rd rd' (fun _ => False) c E w hk tmS t d) : ∀ i, i ≤ ops.size → ∃ c E w hk tmS t d, Inv ops (masksA ops.toList []) nt D V T F w0 lim E0 df kd rd rd' (fun k => k < i) c E w hk tmS t d := by
  intro i
  induction i with
  | zero =>
    intro _
    have e : (fun k : Nat => k < 0) = fun _ => False := by funext k; simp
    rw [e]
    exact ⟨c, E, w, hk, tmS, t, d, I⟩
  | succ i ih =>
    intro hi
    obtain ⟨c1, E1, w1, hk1, tm1, t1, d1, I1⟩ := ih (by omega)
    have ho : ops[i]? = some ops[i] := by simp
    have hdom := dom_of (cs := cs) hL hrec hD hR hfl0 hhist0 hlim hup (by omega) I1
    obtain ⟨c2, E2, w2, hk2, tm2, t2, d2, _, I2⟩ := draw_step (cs := cs) (fn := 0) (kk := []) hL hrec hD hR hfl0 hhist0 (mask_lt hR.back) hlim hup I1 ho (by omega) (fun j hj => mask_lt hR.back i j hj) (fun _ => hdom) ⟨ho, fun _ => rfl⟩ []
    have e : (fun k : Nat => k < i ∨ k = i) = fun k => k < i + 1 := by funext k; apply propext; omega
    rw [e] at I2
    exact ⟨c2, E2, w2, hk2, tm2, t2, d2, I2⟩

theorem orders (hdom : ∀ i, i ≤ ops.size → ∀ id, (D i).nx ≤ id → id < lim → (D i).h.get id = none) : ∀ (fuel tt : Nat) (listed : Array Bool), listed.size = ops.size → (left ops.size listed).length = fuel →
    ∀ {w : World} {hk : Tr AO} {tmS : Tr Value} {t : Array Value} {d : List Deferred} {E : Env} {c : Nat},
    Inv ops (masksA ops.toList []) nt D V T F w0 lim E0 df kd rd rd' (fun k => k < ops.size ∧ listed.getD k false = true) c E w hk tmS t d →
    ∃ c' E' w' hk' tm' t' d', Steps P (lone ⟨fn, t, .inRegion ops (Region.linearise.go .any ops fuel tt listed []) :: kk, d, .run, kindOf kd, rd'⟩ cs w) (lone ⟨fn, t', .inRegion ops [] :: kk, d', .run, kindOf kd, rd'⟩ cs w') ∧
      Inv ops (masksA ops.toList []) nt D V T F w0 lim E0 df kd rd rd' (fun k => k < ops.size) c' E' w' hk' tm' t' d' := by
  intro fuel
  induction fuel with
  | zero =>
    intro tt listed hsz hleft w hk tmS t d E c I
    have e : (fun k : Nat => k < ops.size ∧ listed.getD k false = true) = fun k => k < ops.size := by
      funext k
      apply propext
      refine ⟨fun h => h.1, fun h => ⟨h, ?_⟩⟩
      have h1 : left ops.size listed = [] := List.length_eq_zero_iff.1 hleft
      unfold left at h1
      rw [List.filter_eq_nil_iff] at h1
      simpa using h1 k (by simpa using h)
    rw [e] at I
    exact ⟨c, E, w, hk, tmS, t, d, by rw [show Region.linearise.go .any ops 0 tt listed [] = [] from rfl]; exact Steps.refl _ _, I⟩
  | succ fuel ih =>
    intro tt listed hsz hleft w hk tmS t d E c I
    have hgo : Region.linearise.go .any ops (fuel + 1) tt listed [] = (match (Region.ready .any ops listed)[tt % (Region.ready .any ops listed).length]? with
        | some i => Region.linearise.go .any ops fuel (tt / (Region.ready .any ops listed).length) (listed.setIfInBounds i true) [i]
        | none => [].reverse) := rfl
    -- someone is ready
    have hne : ∃ i, i ∈ Region.ready .any ops listed := by
      have h1 : left ops.size listed ≠ [] := by intro e; rw [e] at hleft; simp at hleft
      obtain ⟨k0, hk0⟩ := List.exists_mem_of_ne_nil _ h1
      unfold left at hk0
      rw [List.mem_filter] at hk0
      have hex : ∃ k, k < ops.size ∧ listed.getD k false = false ∧ ∀ j, j < k → listed.getD j false = true := by
        have hk1 : k0 < ops.size := by simpa using hk0.1
        have hk2 : listed.getD k0 false = false := by simpa using hk0.2
        clear hk0 h1
        induction k0 using Nat.strongRecOn with
        | ind k0 ihk =>
          by_cases hx : ∃ j, j < k0 ∧ listed.getD j false = false
          · obtain ⟨j, a, b⟩ := hx
            exact ihk j a (by omega) b
          · exact ⟨k0, hk1, hk2, fun j hj => by
              cases hq : listed.getD j false with
              | true => rfl
              | false => exact absurd ⟨j, hj, hq⟩ hx⟩
      obtain ⟨k, a, b, z⟩ := hex
      refine ⟨k, ?_⟩
      rw [mem_ready]
      have hk : k < listed.size := by omega
      refine ⟨?_, ops[k], by simp [a], fun e he hb => z e.on (hR.back k ops[k] (by simp [a]) e (by simpa using he) hb)⟩
      rw [Array.getD_eq_getD_getElem?] at b ⊢
      simpa [hk] using b
    cases hi : (Region.ready .any ops listed)[tt % (Region.ready .any ops listed).length]? with
    | none =>
      exfalso
      obtain ⟨i, hi2⟩ := hne
      have hlen : 0 < (Region.ready .any ops listed).length := List.length_pos_of_mem hi2
      rw [List.getElem?_eq_none_iff] at hi
      have := Nat.mod_lt tt hlen
      omega
    | some i =>
      have him : i ∈ Region.ready .any ops listed := List.mem_of_getElem? hi
      rw [mem_ready] at him
      obtain ⟨h1, o, ho, hedges⟩ := him
      have hin : i < ops.size := (Array.getElem?_eq_some_iff.1 ho).1
      have hil : i < listed.size := by omega
      have hni : listed.getD i false = false := by
        rw [Array.getD_eq_getD_getElem?] at h1 ⊢
        simpa [hil] using h1
      have hready : ∀ j, ((masksA ops.toList []).getD i 0).testBit j = true → j < ops.size ∧ listed.getD j false = true := by
        intro j hj
        obtain ⟨o2, ho2, e, he, hb, hei, hor⟩ := mask_spec hj hR.back
        rw [ho] at ho2; cases ho2
        have hel := hedges e (by simpa using he) hb
        rcases hor with h | h
        · rw [← h]; exact ⟨by omega, hel⟩
        · exact I.clo e.on ⟨by omega, hel⟩ j h
      obtain ⟨c2, E2, w2, hk2, tm2, t2, d2, s2, I2⟩ := draw_step (cs := cs) (fn := fn) (kk := kk) hL hrec hD hR hfl0 hhist0 (mask_lt hR.back) hlim hup I ho (fun h => by rw [hni] at h; exact Bool.noConfusion h.2) hready (fun _ => hdom i (by omega)) ⟨ho, fun _ => rfl⟩
        (Region.linearise.go .any ops fuel (tt / (Region.ready .any ops listed).length) (listed.setIfInBounds i true) [])
      have e : (fun k : Nat => (k < ops.size ∧ listed.getD k false = true) ∨ k = i) = fun k => k < ops.size ∧ (listed.setIfInBounds i true).getD k false = true := by
        funext k
        apply propext
        by_cases hk : k = i
        · subst hk
          exact ⟨fun _ => ⟨hin, by simp [hil]⟩, fun _ => .inr rfl⟩
        · have e1 : (listed.setIfInBounds i true).getD k false = listed.getD k false := by
            simp only [Array.getD_eq_getD_getElem?]
            rw [Array.getElem?_setIfInBounds_ne (Ne.symm hk)]
          rw [e1]
          exact ⟨fun h => h.resolve_right hk, .inl⟩
      rw [e] at I2
      obtain ⟨c3, E3, w3, hk3, tm3, t3, d3, s3, I3⟩ := ih (tt / (Region.ready .any ops listed).length) (listed.setIfInBounds i true) (by simpa using hsz) (by have := left_set hsz hin hni; omega) I2
      refine ⟨c3, E3, w3, hk3, tm3, t3, d3, ?_, I3⟩
      have hacc : Region.linearise.go .any ops (fuel + 1) tt listed [] = i :: Region.linearise.go .any ops fuel (tt / (Region.ready .any ops listed).length) (listed.setIfInBounds i true) [] := by
        rw [hgo, hi]
        simp only
        rw [linearise_go_acc]
        rfl
      rw [hacc]
      exact s2.trans s3
end

theorem st_region_draw {P : Program} (hm : P.follows .mixedOrders = true) {fn : FuncId} {t : Array Value} {k : List Item} {d : List Deferred} {kd : CallKind} {rd : Option Nat} {cs : List Frame} {w : World} {id : Nat} {ops : Array Oper} :
    ∃ tt, step P (lone ⟨fn, t, .code (.region id ops true) :: k, d, .run, kd, rd⟩ cs w) = .next (lone ⟨fn, t, .inRegion ops (Region.linearise.go .any ops ops.size tt (Array.replicate ops.size false) []) :: k, d, .run, kd, rd⟩ cs { w with drawn := w.drawn + 1 }) := by
  refine ⟨w.tape w.drawn (.order fn id), step_lone_go ?_⟩
  simp [stepG, stepG.exec, choose, Sem.run, Question.forced, Question.cut, Region.schedule, hm, Region.linearise, -World.drew_eq]

/-- the state behind a region that draws its order -/
noncomputable def drawF (P : Program) (L : Lk) (rec : S → Option S) (h : Tr AO) (nx : Nat) (fn : FuncId) (tm : Tr Value) (nt : Nat) (k : List Item) (df : List Deferred) (kd : Bool) (rd : Option Nat) (ops : Array Oper) : Option S :=
  cond (regOK ops (masksA ops.toList [])) (match drawOps P L rec ops (masksA ops.toList []) nt ops.toList 0 ⟨tm, h, nx, [], [], []⟩ with
    | some ⟨tm, h, nx, fl, _, _⟩ => some ⟨setFl h fl, nx, fn, tm, nt, k, df, true, kd, rd⟩
    | none => none) none

theorem drawF_sound {P : Program} {L : Lk} {rec : S → Option S} (hm : P.follows .mixedOrders = true) (hL : LkOK P L) (hrec : Good P rec) {h : Tr AO} {nx : Nat} {fn : FuncId} {tm : Tr Value} {nt : Nat} {k : List Item} {df : List Deferred} {kd : Bool} {rd : Option Nat} {id : Nat} {ops : Array Oper} {s1 : S}
    (he : drawF P L rec h nx fn tm nt k df kd rd ops = some s1) : Sound P ⟨h, nx, fn, tm, nt, .code (.region id ops true) :: k, df, true, kd, rd⟩ s1 := by
  unfold drawF at he
  obtain ⟨hok, he⟩ := cond_some he
  have hR := regOK_sound hok
  split at he
  · rename_i tm1 h1 nx1 fl1 hi1 ld1 hops
    obtain ⟨D, V, T, d0, d1, d2⟩ := drawOps_inv ops.toList 0 _ _ hops
    simp only [Nat.zero_add, Array.length_toList] at d1 d2
    have hD : ∀ j o, ops[j]? = some o → DStep P L rec ops (masksA ops.toList []) nt j o (D j) (D (j + 1)) (V j) (T j) := fun j o ho => d2 j o (by simpa using ho)
    have hfl0 : (D 0).fl = [] := by rw [d0]
    have hhist0 : (D 0).hist = [] := by rw [d0]
    have hmono := nx_mono hD hL hrec ops.size (Nat.zero_le _) (Nat.le_refl _)
    rw [d0, d1] at hmono
    cases he
    refine ⟨hmono, rfl, rfl, rfl, fun F w0 lim E w fr cs hl hS hf hu => ?_⟩
    have hlim : (D ops.size).nx ≤ lim := by rw [d1]; exact hl
    obtain ⟨fn', tmps', todo', defers', mode', kind', rd'⟩ := fr
    obtain ⟨y1, y2, y3, y4, y5, y6, y7⟩ := hf
    simp only at y1 y2 y3 y4 y5 y6 y7
    simp only [if_true] at y5
    subst y1 y5 y6
    cases y3 with
    | code _ hk =>
      rename_i k'
      have hS : Sit F w0 lim E h nx w := hS
      have I0 : ∀ w2 : World, w2.heap = w.heap → w2.os = w.os → w2.tape = w.tape → w2.output = w.output → Inv ops (masksA ops.toList []) nt D V T F w0 lim E df kd rd rd' (fun _ => False) 0 E w2 h tm tmps' defers' := by
        intro w2 e1 e2 e3 e4
        refine ⟨fun k h => h.elim, Nat.zero_le _, .inl rfl, fun e _ h => h.elim, fun e _ h => by omega, ?_, fun k ob h => h.elim, ?_, fun j hj _ id' a b => ?_, y2, fun k o x h => h.elim, fun x _ => by rw [d0], fun k h => h.elim, .refl _ _ _, y4, y7⟩
        · rw [d0]; exact fun id' ob h => h
        · refine (hS.world e1 e2 e3 e4).later ?_
          rw [d1]; exact hmono
        · have h0 := nx_mono hD hL hrec j (Nat.zero_le _) (by omega)
          have h2 := nx_mono hD hL hrec ops.size (show j + 1 ≤ ops.size by omega) (Nat.le_refl _)
          rw [d0] at h0
          exact hS.fresh id' (Nat.le_trans h0 a) (by omega)
      have hdom : ∀ i, i ≤ ops.size → ∀ id', (D i).nx ≤ id' → id' < lim → (D i).h.get id' = none := by
        intro i hi
        obtain ⟨c2, E2, w2, hk2, tm2, t2, dd2, I2⟩ := canon (cs := cs) hL hrec hD hR hfl0 hhist0 hlim hu (I0 w rfl rfl rfl rfl) i hi
        exact dom_of (cs := cs) hL hrec hD hR hfl0 hhist0 hlim hu hi I2
      obtain ⟨tt, hstep⟩ := st_region_draw (P := P) hm (fn := fn') (t := tmps') (k := k') (d := defers') (kd := kindOf kd) (rd := rd') (cs := cs) (w := w) (id := id) (ops := ops)
      have e0 : (fun _ : Nat => False) = fun k => k < ops.size ∧ (Array.replicate ops.size false).getD k false = true := by
        funext q
        apply propext
        refine ⟨fun h => h.elim, fun h => ?_⟩
        have := h.2
        rw [Array.getD_eq_getD_getElem?, Array.getElem?_replicate] at this
        split at this <;> simp at this
      have I1 := I0 { w with drawn := w.drawn + 1 } rfl rfl rfl rfl
      rw [e0] at I1
      have hleft : (left ops.size (Array.replicate ops.size false)).length = ops.size := by
        unfold left
        rw [List.filter_eq_self.2]
        · simp
        · intro q hq
          rw [Array.getD_eq_getD_getElem?, Array.getElem?_replicate]
          split <;> rfl
      obtain ⟨c3, E3, w3, hk3, tm3, t3, d3, s3, I3⟩ := orders (cs := cs) (fn := fn') (kk := k') hL hrec hD hR hfl0 hhist0 hlim hu hdom ops.size tt (Array.replicate ops.size false) (by simp) hleft I1
      have hcs : (D c3).h = (D ops.size).h := (h_same hD ops.size I3.cle (Nat.le_refl _) (fun q a b x => by have := I3.c1 q x b; omega)).symm
      have hext := I3.ext
      rw [d0, d1] at hext
      refine ⟨E3, w3, ⟨fn', t3, k', d3, .run, kindOf kd, rd'⟩, hext, (Steps.one hstep).trans (s3.trans (Steps.one st_region_end)), ?_, rfl, ?_, hk.mono hext.1, I3.dfr, rfl, rfl, I3.rdr⟩
      · have hsit := I3.sit
        rw [d1] at hsit
        have hfin : Sub (setFl h1 fl1) hk3 := by
          intro id' ob hid
          rcases setFl_get fl1 h1 id' with ⟨x, hx, e1, e2⟩ | ⟨e1, e2⟩
          · rw [e2] at hid; cases hid
            have hx' : x ∈ (D ops.size).fl := by rw [d1]; exact hx
            obtain ⟨ob2, a1, a2, a3, a4⟩ := fl_inv hD hfl0 ops.size (Nat.le_refl _) x hx'
            have := I3.fl x.1 ob2 a2 a1 (fun e b1 b2 => by
              have hce := I3.cle
              rcases Nat.lt_or_ge x.1 e with h | h
              · exact a4 e h (by omega) b1
              · cases hq : ((masksA ops.toList []).getD e 0).testBit x.1 with
                | false => rfl
                | true => have := mask_lt hR.back e x.1 hq; omega)
            rw [a3] at e1 ⊢
            simp only at e1 ⊢
            rw [← e1]; exact this
          · rw [e2] at hid
            refine I3.sub id' ob ?_
            rw [hcs, d1]; exact hid
        exact ⟨fun i o hg => hsit.hr i o (hfin i o hg), fun i j oi oj b hi hj p q => hsit.inj i j oi oj b (hfin _ _ hi) (hfin _ _ hj) p q, hsit.os, hsit.tape, hsit.output, hsit.keeps,
          fun i o b hg hb => hsit.away i o b (hfin _ _ hg) hb, hsit.fresh, hsit.gr⟩
      · -- the values
        have hsame : ∀ x, tm3.get x = tm1.get x := by
          intro x
          by_cases hw : ∃ (j : Nat) (q : Oper), ops[j]? = some q ∧ q.dst = some x
          · obtain ⟨j, q, hj, hq⟩ := hw
            have hjn : j < ops.size := (Array.getElem?_eq_some_iff.1 hj).1
            rw [I3.tm1 j q x hjn hj hq]
            have h2 := tm_same hD ops.size (show j + 1 ≤ ops.size by omega) (Nat.le_refl _) (d := x) (fun k o2 a b z y => by
              have := hR.uniq k j o2 q x z hj y hq; omega)
            rw [tm_put hD hj hq, d1] at h2
            exact h2.symm
          · rw [I3.tm0 x (fun j q _ hj hq => hw ⟨j, q, hj, hq⟩)]
            have h2 := tm_same hD ops.size (Nat.zero_le _) (Nat.le_refl _) (d := x) (fun k o2 _ _ z y => hw ⟨k, o2, z, y⟩)
            rw [d1] at h2
            exact h2.symm
        obtain ⟨g1, g2, g3⟩ := I3.tm
        exact ⟨g1, fun q hq => by rw [← hsame]; exact g2 q hq, fun q => by
          have := g3 q
          rw [hsame] at this; exact this⟩
  · cases he
theorem drawA_sound {P : Program} {L : Lk} {rec : S → Option S} (hm : P.follows .mixedOrders = true) (hL : LkOK P L) (hrec : Good P rec) {h : Tr AO} {nx : Nat} {fn : FuncId} {tm : Tr Value} {nt : Nat} {k : List Item} {df : List Deferred} {kd : Bool} {rd : Option Nat} {id : Nat} {ops : Array Oper} {s' : S}
    (he : drawA P L rec h nx fn tm nt k df kd rd ops = some s') : ∃ s1, rec s1 = some s' ∧ Sound P ⟨h, nx, fn, tm, nt, .code (.region id ops true) :: k, df, true, kd, rd⟩ s1 := by
  unfold drawA at he
  obtain ⟨hok, he⟩ := cond_some he
  split at he
  · rename_i tm1 h1 nx1 fl1 hi1 ld1 hops
    exact ⟨_, he, drawF_sound hm hL hrec (by unfold drawF; rw [hok, hops]; rfl)⟩
  · cases he
end Go.Proofs.Ex

namespace Go.Proofs.Ex
variable [Sg]
open Go.RowKit

section
variable {P : Program} {L : Lk} {rec : S → Option S}

/-- what a state becomes is sound, if it goes on with a sound state -/
theorem go_on (hrec : Good P rec) {s s1 s' : S} (he : rec s1 = some s') (hs : Sound P s s1) : Sound P s s' ∧ overG s' :=
  let ⟨a, b⟩ := hrec s1 s' he; ⟨hs.trans a, b⟩

theorem regionA_sound (hL : LkOK P L) (hrec : Good P rec) {h : Tr AO} {nx : Nat} {fn : FuncId} {tm : Tr Value} {nt : Nat} {k : List Item} {df : List Deferred} {kd : Bool} {rd : Option Nat} {id : Nat} {ops : Array Oper} {s' : S}
    (he : regionA P L rec h nx fn tm nt k df kd rd ops = some s') : ∃ s1, rec s1 = some s' ∧ Sound P ⟨h, nx, fn, tm, nt, .code (.region id ops false) :: k, df, true, kd, rd⟩ s1 := by
  unfold regionA at he
  split at he
  · rename_i tm1 h1 nx1 df1 hops
    obtain ⟨g1, g2⟩ := runOps_sound hL hrec ops.toList 0 (by simp) _ _ hops
    refine ⟨_, he, g1, rfl, rfl, rfl, fun F w0 lim E w fr cs hl hS hf hu => ?_⟩
    obtain ⟨fn', tmps', todo', defers', mode', kind', rd'⟩ := fr
    obtain ⟨y1, y2, y3, y4, y5, y6, y7⟩ := hf
    simp only at y1 y2 y3 y4 y5 y6 y7
    simp only [if_true] at y5
    subst y1 y5 y6
    cases y3 with
    | code _ hk =>
      rename_i k'
      obtain ⟨E1, w1, t1, d1, x1, x2, x3, x4, x5⟩ := g2 F w0 lim E w fn' tmps' k' defers' rd' cs hl hS y2 y4 y7 hu
      refine ⟨E1, w1, ⟨fn', t1, k', d1, .run, kindOf kd, rd'⟩, x1, ?_, x3, rfl, x4, hk.mono x1.1, x5, rfl, rfl, y7.mono x1.1⟩
      have := x2
      rw [List.drop_zero] at this
      exact (Steps.one st_region).trans (this.trans (Steps.one st_region_end))
  · cases he

/-- a step that only turns what is left to do -/
theorem plain_step {h : Tr AO} {nx : Nat} {fn : FuncId} {tm : Tr Value} {nt : Nat} {todo todo1 : List Item} {df : List Deferred} {md md1 kd : Bool} {rd : Option Nat}
    (hx : ∀ (E : Env) (t : Array Value) (k : List Item) (d : List Deferred) (rd' : Option Nat) (cs : List Frame) (w : World), ItR E todo k → TmR E tm nt t → RdR E rd rd' →
      ∃ k1, step P (lone ⟨fn, t, k, d, if md then .run else .returning, kindOf kd, rd'⟩ cs w) = .next (lone ⟨fn, t, k1, d, if md1 then .run else .returning, kindOf kd, rd'⟩ cs w) ∧ ItR E todo1 k1) :
    Sound P ⟨h, nx, fn, tm, nt, todo, df, md, kd, rd⟩ ⟨h, nx, fn, tm, nt, todo1, df, md1, kd, rd⟩ :=
  Sound.step (h := h) (nx := nx) rfl rfl rfl rfl rfl rfl rfl fun E w fr cs hf => by
    obtain ⟨fn', tmps', todo', defers', mode', kind', rd'⟩ := fr
    obtain ⟨y1, y2, y3, y4, y5, y6, y7⟩ := hf
    simp only at y1 y2 y3 y4 y5 y6 y7
    subst y1 y5 y6
    obtain ⟨k1, q1, q2⟩ := hx E tmps' todo' defers' rd' cs w y3 y2 y7
    exact ⟨_, q1, rfl, y2, q2, y4, rfl, rfl, y7⟩

theorem retA_sound (hrec : Good P rec) {h : Tr AO} {nx : Nat} {fn : FuncId} {tm : Tr Value} {nt : Nat} {todo : List Item} {df : List Deferred} {kd : Bool} {rd : Option Nat} {s' : S}
    (hk : todo = [] ∨ ∃ k, todo = .code .ret :: k) (he : retA rec h nx fn tm nt todo df kd rd = some s') : Sound P ⟨h, nx, fn, tm, nt, todo, df, true, kd, rd⟩ s' ∧ overG s' := by
  unfold retA at he
  split at he
  · refine go_on hrec he (plain_step fun E t k d rd' cs w hi ht hr => ?_)
    cases rd' with
    | some l => exact hr.elim
    | none =>
      rcases hk with rfl | ⟨k0, rfl⟩
      · cases hi; exact ⟨[], st_end, .nil⟩
      · cases hi with
        | code _ hk' => exact ⟨_, st_ret, .code _ hk'⟩
  · cases he

theorem run_enterLoop_round {w : World} {l : Nat} {r : Loop} (h : w.heap[l]? = some (.loop r)) (fn : FuncId) (tmps : Array Value) (ps : Array Tmp) (a b : Code) :
    (Instr.enterLoop fn tmps ps a b (some l)).run P w = .ok (w.heap.size, []) (w.alloc (.loop { state := .ready, pending := none, fn, tmps, params := ps, assign := a, body := b, defers := r.defers })) := by
  unfold Instr.enterLoop
  simp only [Sem.run_bind, run_getLoop h, Result.andThen_ok, Sem.run_pure, run_newObj_alloc]

theorem st_rangeFunc {fn : FuncId} {t : Array Value} {f : Operand} {ps : Array Tmp} {a b : Code} {k : List Item} {d : List Deferred} {kd : CallKind} {rd : Option Nat} {cs : List Frame} {w w1 : World} {l : Nat} {mark : List Deferred} {g : FuncId} {args : Array Value}
    (h1 : (Instr.enterLoop fn t ps a b rd).run P w = .ok (l, mark) w1)
    (h2 : (do let d ← resolve (Act.eval ⟨t, []⟩) { callee := .value f, args := #[.const (.func (.yield l) #[] #[])], argTypes := #[] } 0; invoke d.target d.args : Sem Next).run P w1 = .ok (.enter g args) w1) :
    step P (lone ⟨fn, t, .code (.rangeFunc f ps a b) :: k, d, .run, kd, rd⟩ cs w) = .next (lone (Frame.enter P g args .normal) (⟨fn, t, .inRangeFunc l :: k, mark ++ d, .run, kd, rd⟩ :: cs) w1) := by
  have he := fun d' => eval_fr (fn := fn) (t := t) (d := d') (kd := kd) (rd := rd) (.inRangeFunc l :: k) .run
  refine step_lone_go ?_
  simp only [stepG, stepG.exec, Sem.runT_eq, h1, stepG.apply]
  rw [he]
  simp [h2]

theorem st_beginRound {fn : FuncId} {t : Array Value} {k : List Item} {d : List Deferred} {kd : CallKind} {l : Nat} {cs : List Frame} {w w1 : World} (h : (Instr.beginRound l).run P w = .ok () w1) :
    step P (lone ⟨fn, t, .beginRound :: k, d, .run, kd, some l⟩ cs w) = .next (lone ⟨fn, t, k, d, .run, kd, some l⟩ cs w1) := by
  refine step_lone_go ?_
  simp [stepG, stepG.exec, stepG.apply, h, Frame.finish]

theorem st_endRange {fn : FuncId} {t : Array Value} {k : List Item} {d : List Deferred} {kd : CallKind} {rd : Option Nat} {l : Nat} {cs : List Frame} {w w1 : World} {j : Option Code} (h : (Instr.endLoop l).run P w = .ok j w1) :
    step P (lone ⟨fn, t, .endRangeFunc l :: k, d, .run, kd, rd⟩ cs w) = .next (lone ⟨fn, t, (j.map Item.code).toList ++ k, d, .run, kd, rd⟩ cs w1) := by
  refine step_lone_go ?_
  simp [stepG, stepG.exec, h]

theorem st_collected {fn : FuncId} {t : Array Value} {k : List Item} {d ds : List Deferred} {kd : CallKind} {rd : Option Nat} {b : Nat} {as : Array Value} {cs : List Frame} {w w1 : World} (h : (Instr.takeDeferred b).run P w = .ok ds w1) :
    step P (lone ⟨fn, t, k, ⟨.collected b, as⟩ :: d, .returning, kd, rd⟩ cs w) = .next (lone ⟨fn, t, k, ds ++ d, .returning, kd, rd⟩ cs w1) := by
  refine step_lone_go ?_
  simp [stepG, unwind, h]

theorem st_deferred {fn : FuncId} {t : Array Value} {k : List Item} {d : List Deferred} {kd : CallKind} {rd : Option Nat} {f g : FuncId} {cap as args : Array Value} {cs : List Frame} {w : World} (h : (invoke (.fn (.func f) cap) as).run P w = .ok (.enter g args) w) :
    step P (lone ⟨fn, t, k, ⟨.fn (.func f) cap, as⟩ :: d, .returning, kd, rd⟩ cs w) = .next (lone (Frame.enter P g args .deferred) (⟨fn, t, k, d, .returning, kd, rd⟩ :: cs) w) := by
  refine step_lone_go ?_
  simp [stepG, unwind, callDeferred, h]
end
end Go.Proofs.Ex

namespace Go.Proofs.Ex
variable [Sg]
open Go.RowKit

section
variable {P : Program} {L : Lk} {rec : S → Option S}

theorem bodyA_spec {g : FuncId} (h : bodyA L g = true) : ∃ fn c, L.fs.get g = some fn ∧ fn.body = some c := by
  unfold bodyA at h
  split at h
  · rename_i fn hf
    split at h
    · rename_i c hc; exact ⟨fn, c, hf, hc⟩
    · cases h
  · cases h

theorem TmR.func {E : Env} {tm : Tr Value} {nt : Nat} {t : Array Value} (h : TmR E tm nt t) {f : Operand} {g : FuncId} {a b : Array Value} (he : Ex.ev tm f = some (Value.func (.func g) a b)) :
    ∃ a' b', Act.eval ⟨t, []⟩ f = Value.func (.func g) a' b' ∧ AR E a a' ∧ AR E b b' := by
  have hv := h.ev f _ he
  generalize Act.eval ⟨t, []⟩ f = y at hv
  cases hv with
  | func hfn s1 q1 s2 q2 => cases hfn; exact ⟨_, _, rfl, ⟨s1, q1⟩, ⟨s2, q2⟩⟩

theorem VR.yield0 {E : Env} {l l' : Nat} (h : E.ρ l = some l') : VR E (.func (.yield l) #[] #[]) (.func (.yield l') #[] #[]) :=
  .func (.yield h) rfl (fun i a b p => by simp at p) rfl (fun i a b p => by simp at p)
theorem map_const1 (t : Array Value) (v : Value) : Array.map (Act.eval ⟨t, []⟩) #[Operand.const v] = #[v] := by
  simp [Act.eval]

theorem rangeA_sound (hL : LkOK P L) (hrec : Good P rec) {h : Tr AO} {nx : Nat} {fn : FuncId} {tm : Tr Value} {nt : Nat} {k : List Item} {df : List Deferred} {kd : Bool} {rd : Option Nat} {f : Operand} {ps : Array Tmp} {a b : Code} {s' : S}
    (he : rangeA L rec h nx fn tm nt k df kd rd f ps a b = some s') : Sound P ⟨h, nx, fn, tm, nt, .code (.rangeFunc f ps a b) :: k, df, true, kd, rd⟩ s' ∧ overG s' := by
  unfold rangeA at he
  split at he
  · rename_i g first captured hf
    cases hb : bodyA L g with
    | false => rw [hb] at he; cases he
    | true =>
      rw [hb] at he
      simp only [cond_true] at he
      obtain ⟨fd, c0, hfd, hbody⟩ := bodyA_spec hb
      have hcall := hL.call _ _ _ hfd hbody
      split at he
      · -- outermost
        split at he
        · rename_i v h1 nx1 hc
          obtain ⟨g1, g2⟩ := callsA_sound hL hrec hc
          refine go_on hrec he ⟨by show nx ≤ nx1; omega, rfl, rfl, rfl, fun F w0 lim E w fr cs hl hS hfr hu => ?_⟩
          obtain ⟨fn', tmps', todo', defers', mode', kind', rd'⟩ := fr
          obtain ⟨y1, y2, y3, y4, y5, y6, y7⟩ := hfr
          simp only at y1 y2 y3 y4 y5 y6 y7
          simp only [if_true] at y5
          subst y1 y5 y6
          cases rd' with
          | some l => exact y7.elim
          | none =>
            cases y3 with
            | code _ hk =>
              rename_i k'
              have hS : Sit F w0 lim E h nx w := hS
              have hl : nx1 ≤ lim := hl
              have hlim : nx + 2 ≤ lim := by show nx + 2 ≤ lim; have : nx1 ≤ lim := hl; omega
              -- two new blocks
              have x1 := put_ext hS (show nx < lim by omega) w.heap.size
              have S1 := hS.alloc (o := .deferred (some [])) (o' := .deferred (some [])) (w1 := w.alloc (.deferred (some []))) x1.1 (Nat.lt_succ_self nx) (fun _ => rfl) (fun _ _ => rfl) (by omega) (.deferred .nil) rfl rfl rfl rfl
              have x2 := put_ext S1 (show nx + 1 < lim by omega) (w.alloc (.deferred (some []))).heap.size
              have hρ1 : ((E.put nx w.heap.size).put (nx + 1) (w.alloc (.deferred (some []))).heap.size).ρ nx = some w.heap.size := x2.1.1 _ _ (Env.put_ρ _ _ _)
              have S2 := S1.alloc (o := .loop .ready none fn' tm nt ps a b nx) (o' := .loop { state := .ready, pending := none, fn := fn', tmps := tmps', params := ps, assign := a, body := b, defers := w.heap.size })
                (w1 := (w.alloc (.deferred (some []))).alloc (.loop { state := .ready, pending := none, fn := fn', tmps := tmps', params := ps, assign := a, body := b, defers := w.heap.size }))
                x2.1 (Nat.lt_succ_self _) (fun _ => rfl) (fun _ _ => rfl) (by omega) (.loop (y2.mono (Env.le_trans x1.1 x2.1)) hρ1) rfl rfl rfl rfl
              have x12 := x1.trans x2 (by omega) (by omega)
              have hl2 : ((E.put nx w.heap.size).put (nx + 1) (w.alloc (.deferred (some []))).heap.size).ρ (nx + 1) = some (w.heap.size + 1) := by
                rw [Env.put_ρ, World.size_alloc]
              obtain ⟨fa, fb, e1, e2, e3⟩ := y2.func hf
              have hargs : LR ((E.put nx w.heap.size).put (nx + 1) (w.alloc (.deferred (some []))).heap.size) (first.toList ++ [Value.func (.yield (nx + 1)) #[] #[]] ++ captured.toList)
                  ((fa ++ #[Value.func (.yield (w.heap.size + 1)) #[] #[]]) ++ fb).toList := by
                have q := ((e2.mono x12.1).list.append (LR.cons (VR.yield0 hl2) (LR.nil _))).append (e3.mono x12.1).list
                simpa using q
              have st1 := st_rangeFunc (P := P) (k := k') (d := defers') (kd := kindOf kd) (cs := cs) (run_enterLoop_outer (P := P) (w := w) fn' tmps' ps a b)
                (f := f) (g := g) (args := (fa ++ #[.func (.yield (w.heap.size + 1)) #[] #[]]) ++ fb) (by
                  simp only [resolve, e1, Deferred.ofValue, Sem.run_bind, Sem.run_pure, Result.andThen_ok, invoke, map_const1]
                  exact hcall _ _)
              obtain ⟨E3, w3, v3, z1, z2, z3, z4⟩ := g2 F w0 lim _ _ _ ⟨fn', tmps', .inRangeFunc (w.heap.size + 1) :: k', [(⟨.collected w.heap.size, #[]⟩ : Deferred)] ++ defers', .run, kindOf kd, none⟩ cs hl S2 hargs (fun hk => by cases hk)
              have x3 : Ext E E3 nx nx1 := x12.trans z1 (by omega) g1
              refine ⟨E3, w3, ⟨fn', tmps', .endRangeFunc (w.heap.size + 1) :: k', [(⟨.collected w.heap.size, #[]⟩ : Deferred)] ++ defers', .run, kindOf kd, none⟩, x3, (Steps.one st1).trans z2, z3, ?_⟩
              refine ⟨rfl, y2.mono x3.1, .endRange (z1.1.1 _ _ hl2) (hk.mono x3.1), ?_, rfl, rfl, trivial⟩
              exact .cons (.mark (z1.1.1 _ _ hρ1) ⟨rfl, fun i a b p => by simp at p⟩) (y4.mono x3.1)
        · cases he
      · -- within a round
        rename_i l
        split at he
        · rename_i st p lfn ltm lnt lps la lb ld hg
          split at he
          · rename_i v h1 nx1 hc
            obtain ⟨g1, g2⟩ := callsA_sound hL hrec hc
            refine go_on hrec he ⟨by show nx ≤ nx1; omega, rfl, rfl, rfl, fun F w0 lim E w fr cs hl hS hfr hu => ?_⟩
            obtain ⟨fn', tmps', todo', defers', mode', kind', rd'⟩ := fr
            obtain ⟨y1, y2, y3, y4, y5, y6, y7⟩ := hfr
            simp only at y1 y2 y3 y4 y5 y6 y7
            simp only [if_true] at y5
            subst y1 y5 y6
            cases rd' with
            | none => exact y7.elim
            | some l' =>
              cases y3 with
              | code _ hk =>
                rename_i k'
                have hS : Sit F w0 lim E h nx w := hS
                have hl : nx1 ≤ lim := hl
                have hlim : nx + 1 ≤ lim := by have : nx1 ≤ lim := hl; omega
                obtain ⟨b', o', q1, q2, q3⟩ := hS.hr _ _ hg
                have hll : E.ρ l = some l' := y7
                rw [hll] at q1; cases q1
                cases q3 with
                | loop ht hd =>
                  rename_i ts d'
                  have x1 := put_ext hS (show nx < lim by omega) w.heap.size
                  have S1 := hS.alloc (o := .loop .ready none fn' tm nt ps a b ld) (o' := .loop { state := .ready, pending := none, fn := fn', tmps := tmps', params := ps, assign := a, body := b, defers := d' })
                    (w1 := w.alloc (.loop { state := .ready, pending := none, fn := fn', tmps := tmps', params := ps, assign := a, body := b, defers := d' }))
                    x1.1 (Nat.lt_succ_self nx) (fun _ => rfl) (fun _ _ => rfl) (by omega) (.loop (y2.mono x1.1) (x1.1.1 _ _ hd)) rfl rfl rfl rfl
                  obtain ⟨fa, fb, e1, e2, e3⟩ := y2.func hf
                  have hl2 : (E.put nx w.heap.size).ρ nx = some w.heap.size := Env.put_ρ _ _ _
                  have hargs : LR (E.put nx w.heap.size) (first.toList ++ [Value.func (.yield nx) #[] #[]] ++ captured.toList) ((fa ++ #[Value.func (.yield w.heap.size) #[] #[]]) ++ fb).toList := by
                    have q := ((e2.mono x1.1).list.append (LR.cons (VR.yield0 hl2) (LR.nil _))).append (e3.mono x1.1).list
                    simpa using q
                  have st1 := st_rangeFunc (P := P) (k := k') (d := defers') (kd := kindOf kd) (cs := cs) (run_enterLoop_round (P := P) q2 fn' tmps' ps a b)
                    (f := f) (g := g) (args := (fa ++ #[.func (.yield w.heap.size) #[] #[]]) ++ fb) (by
                      simp only [resolve, e1, Deferred.ofValue, Sem.run_bind, Sem.run_pure, Result.andThen_ok, invoke, map_const1]
                      exact hcall _ _)
                  obtain ⟨E3, w3, v3, z1, z2, z3, z4⟩ := g2 F w0 lim _ _ _ ⟨fn', tmps', .inRangeFunc w.heap.size :: k', [] ++ defers', .run, kindOf kd, some l'⟩ cs hl S1 hargs (fun hk => by cases hk)
                  have x3 : Ext E E3 nx nx1 := x1.trans z1 (by omega) g1
                  refine ⟨E3, w3, ⟨fn', tmps', .endRangeFunc w.heap.size :: k', defers', .run, kindOf kd, some l'⟩, x3, (Steps.one st1).trans z2, z3, ?_⟩
                  exact ⟨rfl, y2.mono x3.1, .endRange (z1.1.1 _ _ hl2) (hk.mono x3.1), y4.mono x3.1, rfl, rfl, x3.1.1 _ _ hll⟩
          · cases he
        · cases he
  · cases he

theorem beginA_sound (hrec : Good P rec) {h : Tr AO} {nx : Nat} {fn : FuncId} {tm : Tr Value} {nt : Nat} {k : List Item} {df : List Deferred} {kd : Bool} {rd : Option Nat} {s' : S}
    (he : beginA rec h nx fn tm nt k df kd rd = some s') : Sound P ⟨h, nx, fn, tm, nt, .beginRound :: k, df, true, kd, rd⟩ s' ∧ overG s' := by
  unfold beginA at he
  split at he
  · rename_i l
    split at he
    · rename_i p lfn ltm lnt ps a b d hg
      refine go_on hrec he ⟨Nat.le_refl _, rfl, rfl, rfl, fun F w0 lim E w fr cs hl hS hfr hu => ?_⟩
      obtain ⟨fn', tmps', todo', defers', mode', kind', rd'⟩ := fr
      obtain ⟨y1, y2, y3, y4, y5, y6, y7⟩ := hfr
      simp only at y1 y2 y3 y4 y5 y6 y7
      simp only [if_true] at y5
      subst y1 y5 y6
      cases rd' with
      | none => exact y7.elim
      | some l' =>
        cases y3 with
        | beginRound hk =>
          rename_i k'
          obtain ⟨b', o', q1, q2, q3⟩ := hS.hr _ _ hg
          have hll : E.ρ l = some l' := y7
          rw [hll] at q1; cases q1
          cases q3 with
          | loop ht hd =>
            rename_i ts d'
            have hr := run_beginRound (P := P) q2 rfl
            exact ⟨E, _, ⟨fn', tmps', k', defers', .run, kindOf kd, some l'⟩, .refl _ _ _, Steps.one (st_beginRound hr), hS.setObj hg hll q2 (.loop ht hd), rfl, y2, hk, y4, rfl, rfl, y7⟩
    · cases he
  · cases he

theorem endA_sound (hrec : Good P rec) {h : Tr AO} {nx : Nat} {fn : FuncId} {tm : Tr Value} {nt : Nat} {k : List Item} {df : List Deferred} {kd : Bool} {rd : Option Nat} {l : Nat} {s' : S}
    (he : endA rec h nx fn tm nt k df kd rd l = some s') : Sound P ⟨h, nx, fn, tm, nt, .endRangeFunc l :: k, df, true, kd, rd⟩ s' ∧ overG s' := by
  unfold endA at he
  split at he
  · rename_i st p lfn ltm lnt ps a b d hg
    split at he
    · cases he
    · rename_i hnb
      refine go_on hrec he ⟨Nat.le_refl _, rfl, rfl, rfl, fun F w0 lim E w fr cs hl hS hfr hu => ?_⟩
      obtain ⟨fn', tmps', todo', defers', mode', kind', rd'⟩ := fr
      obtain ⟨y1, y2, y3, y4, y5, y6, y7⟩ := hfr
      simp only at y1 y2 y3 y4 y5 y6 y7
      simp only [if_true] at y5
      subst y1 y5 y6
      cases y3 with
      | endRange hll hk =>
        rename_i l' k'
        obtain ⟨b', o', q1, q2, q3⟩ := hS.hr _ _ hg
        rw [hll] at q1; cases q1
        cases q3 with
        | loop ht hd =>
          rename_i ts d'
          have hr := run_endLoop (P := P) q2 (fun e => hnb e)
          refine ⟨E, _, ⟨fn', tmps', (p.map Item.code).toList ++ k', defers', .run, kindOf kd, rd'⟩, .refl _ _ _, Steps.one (st_endRange hr), hS.setObj hg hll q2 (.loop ht hd), rfl, y2, ?_, y4, rfl, rfl, y7⟩
          cases p with
          | none => exact hk
          | some c => exact .code c hk
  · cases he

theorem deferA_sound (hL : LkOK P L) (hrec : Good P rec) {h : Tr AO} {nx : Nat} {fn : FuncId} {tm : Tr Value} {nt : Nat} {todo : List Item} {df : List Deferred} {kd : Bool} {rd : Option Nat} {s' : S}
    (he : deferA L rec h nx fn tm nt todo df kd rd = some s') : Sound P ⟨h, nx, fn, tm, nt, todo, df, false, kd, rd⟩ s' ∧ overG s' := by
  unfold deferA at he
  split at he
  · cases he
  · rename_i t as ds
    split at he
    · rename_i b
      split at he
      · rename_i calls hg
        refine go_on hrec he ⟨Nat.le_refl _, rfl, rfl, rfl, fun F w0 lim E w fr cs hl hS hfr hu => ?_⟩
        obtain ⟨fn', tmps', todo', defers', mode', kind', rd'⟩ := fr
        obtain ⟨y1, y2, y3, y4, y5, y6, y7⟩ := hfr
        simp only at y1 y2 y3 y4 y5 y6 y7
        simp only [Bool.false_eq_true, if_false] at y5
        subst y1 y5 y6
        cases y4 with
        | cons h1 h2 =>
          cases h1 with
          | mark hb ha =>
            obtain ⟨b', o', q1, q2, q3⟩ := hS.hr _ _ hg
            rw [hb] at q1; cases q1
            cases q3 with
            | deferred hd =>
              have hr := run_takeDeferred (P := P) q2
              exact ⟨E, _, ⟨fn', tmps', todo', _, .returning, kindOf kd, rd'⟩, .refl _ _ _, Steps.one (st_collected hr), hS.setObj hg hb q2 .deferred0, rfl, y2, y3, hd.append h2, rfl, rfl, y7⟩
      · cases he
    · rename_i f captured
      split at he
      · rename_i v h1 nx1 hc
        obtain ⟨g1, g2⟩ := callsA_sound hL hrec hc
        have hcall : ∃ fd c, L.fs.get f = some fd ∧ fd.body = some c := by
          unfold callsA at hc
          simp only [cond_true] at hc
          split at hc
          · rename_i s hs
            obtain ⟨_, _, _, _, _, fd, c, e1, e2, _⟩ := enterA_frame (P := P) hs
            exact ⟨fd, c, e1, e2⟩
          · cases hc
        obtain ⟨fd, c0, hfd, hbody⟩ := hcall
        have hrun := hL.call _ _ _ hfd hbody
        refine go_on hrec he ⟨g1, rfl, rfl, rfl, fun F w0 lim E w fr cs hl hS hfr hu => ?_⟩
        obtain ⟨fn', tmps', todo', defers', mode', kind', rd'⟩ := fr
        obtain ⟨y1, y2, y3, y4, y5, y6, y7⟩ := hfr
        simp only at y1 y2 y3 y4 y5 y6 y7
        simp only [Bool.false_eq_true, if_false] at y5
        subst y1 y5 y6
        cases y4 with
        | cons hd1 hd2 =>
          rename_i d' l'
          cases hd1 with
          | fn hfn hc2 ha =>
            rename_i f' c' a'
            cases hfn
            have hargs : LR E (as.toList ++ captured.toList) (a' ++ c').toList := by simpa using ha.list.append hc2.list
            have st1 := st_deferred (P := P) (fn := fn') (t := tmps') (k := todo') (d := l') (kd := kindOf kd) (rd := rd') (f := f) (g := f) (cap := c') (as := a') (args := a' ++ c') (cs := cs) (w := w) (by
              simp only [invoke]; exact hrun _ _)
            obtain ⟨E3, w3, v3, z1, z2, z3, z4⟩ := g2 F w0 lim E w (a' ++ c') ⟨fn', tmps', todo', l', .returning, kindOf kd, rd'⟩ cs hl hS hargs (fun _ => rfl)
            exact ⟨E3, w3, ⟨fn', tmps', todo', l', .returning, kindOf kd, rd'⟩, z1, (Steps.one st1).trans z2, z3, rfl, y2.mono z1.1, y3.mono z1.1, hd2.mono z1.1, rfl, rfl, y7.mono z1.1⟩
      · cases he
    · cases he

theorem toA_sound (hrec : Good P rec) {h : Tr AO} {nx : Nat} {fn : FuncId} {tm : Tr Value} {nt : Nat} {todo : List Item} {k1 : Option (List Item)} {df : List Deferred} {kd : Bool} {rd : Option Nat} {s' : S}
    (hx : ∀ k2, k1 = some k2 → ∀ (E : Env) (t : Array Value) (k : List Item) (d : List Deferred) (rd' : Option Nat) (cs : List Frame) (w : World), ItR E todo k → ∃ k3, step P (lone ⟨fn, t, k, d, .run, kindOf kd, rd'⟩ cs w) = .next (lone ⟨fn, t, k3, d, .run, kindOf kd, rd'⟩ cs w) ∧ ItR E k2 k3)
    (he : toA rec h nx fn tm nt k1 df kd rd = some s') : Sound P ⟨h, nx, fn, tm, nt, todo, df, true, kd, rd⟩ s' ∧ overG s' := by
  unfold toA at he
  split at he
  · rename_i k2
    exact go_on hrec he (plain_step fun E t k d rd' cs w hi _ _ => hx k2 rfl E t k d rd' cs w hi)
  · cases he

theorem stepA_sound (hm : P.follows .mixedOrders = true) (hL : LkOK P L) (hrec : Good P rec) (s s' : S) (he : stepA P L rec s = some s') : Sound P s s' ∧ overG s' := by
  obtain ⟨h, nx, fn, tm, nt, todo, df, md, kd, rd⟩ := s
  simp only [stepA] at he
  cases hov : overA todo df md rd with
  | true =>
    rw [hov] at he
    cases he
    exact ⟨.refl _ _, .inl hov⟩
  | false =>
    rw [hov] at he
    simp only [cond_false] at he
    cases md with
    | false => exact deferA_sound hL hrec he
    | true =>
      simp only at he
      cases todo with
      | nil => exact retA_sound hrec (.inl rfl) he
      | cons it k =>
        simp only [itemA] at he
        cases it with
        | code c =>
          simp only [codeA] at he
          cases c with
          | ret => exact retA_sound hrec (.inr ⟨k, rfl⟩) he
          | skip => exact go_on hrec he (plain_step fun E t k d rd' cs w hi _ _ => by cases hi with | code _ hk => exact ⟨_, st_skip, hk⟩)
          | label l => exact go_on hrec he (plain_step fun E t k d rd' cs w hi _ _ => by cases hi with | code _ hk => exact ⟨_, st_label, hk⟩)
          | seq a b => exact go_on hrec he (plain_step fun E t k d rd' cs w hi _ _ => by cases hi with | code _ hk => exact ⟨_, st_seq, .code _ (.code _ hk)⟩)
          | cond c a b =>
            simp only [condA] at he
            split at he
            · rename_i z hz
              refine go_on hrec he (plain_step fun E t k d rd' cs w hi ht _ => ?_)
              cases hi with
              | code _ hk => exact ⟨_, st_cond (ht.ev c _ hz).bool_inv, .code _ hk⟩
            · cases he
          | block id b => exact go_on hrec he (plain_step fun E t k d rd' cs w hi _ _ => by cases hi with | code _ hk => exact ⟨_, st_block, .code _ (.inBlock _ hk)⟩)
          | loop b => exact go_on hrec he (plain_step fun E t k d rd' cs w hi _ _ => by cases hi with | code _ hk => exact ⟨_, st_loop, .code _ (.inLoop _ hk)⟩)
          | scope b => exact go_on hrec he (plain_step fun E t k d rd' cs w hi _ _ => by cases hi with | code _ hk => exact ⟨_, st_scope, .code _ (.inScope _ hk)⟩)
          | exit id =>
            refine toA_sound hrec (fun k2 hk2 E t k d rd' cs w hi => ?_) he
            cases hi with
            | code _ hk =>
              obtain ⟨k3, e1, e2⟩ := (exitTo_rel hk id).1 _ hk2
              exact ⟨k3, st_exit e1, e2⟩
          | goto l =>
            refine toA_sound hrec (fun k2 hk2 E t k d rd' cs w hi => ?_) he
            cases hi with
            | code _ hk =>
              obtain ⟨k3, e1, e2⟩ := (gotoIn_rel hk l).1 _ hk2
              exact ⟨k3, st_goto e1, e2⟩
          | region id ops dr =>
            cases dr with
            | true =>
              simp only [cond_true] at he
              obtain ⟨s1, q1, q2⟩ := drawA_sound (id := id) hm hL hrec he
              exact go_on hrec q1 q2
            | false =>
              simp only [cond_false] at he
              obtain ⟨s1, q1, q2⟩ := regionA_sound (id := id) hL hrec he
              exact go_on hrec q1 q2
          | rangeFunc f ps a b => exact rangeA_sound hL hrec he
          | refuse why => cases he
        | inLoop b => exact go_on hrec he (plain_step fun E t k d rd' cs w hi _ _ => by cases hi with | inLoop _ hk => exact ⟨_, st_inLoop, .code _ (.inLoop _ hk)⟩)
        | inBlock id => exact go_on hrec he (plain_step fun E t k d rd' cs w hi _ _ => by cases hi with | inBlock _ hk => exact ⟨_, st_inBlock, hk⟩)
        | inScope c => exact go_on hrec he (plain_step fun E t k d rd' cs w hi _ _ => by cases hi with | inScope _ hk => exact ⟨_, st_inScope, hk⟩)
        | beginRound => exact beginA_sound hrec he
        | endRangeFunc l => exact endA_sound hrec he
        | inRegion ops l => cases he
        | inRangeFunc l => cases he
        | call d wr re sv => cases he
        | _ => cases he

theorem arun_good (hm : P.follows .mixedOrders = true) (hL : LkOK P L) : ∀ n, Good P (arun P L n) := by
  intro n
  induction n with
  | zero => intro s s' h; cases h
  | succ n ih => intro s s' h; exact stepA_sound hm hL ih s s' h
end
end Go.Proofs.Ex

namespace Go.Proofs.Ex
variable [Sg]
open Go.RowKit

section
variable {P : Program} {L : Lk}

/-! Is what came the state that is written down? -/
def eqV (a b : Value) : Bool :=
  match a, b with
  | .tuple x, .tuple y => veqN.veqL 5 x.toList y.toList
  | .agg x, .agg y => veqN.veqL 5 x.toList y.toList
  | a, b => veqN 5 a b

def eqOV : Option Value → Option Value → Bool
  | none, none => true
  | some a, some b => eqV a b
  | _, _ => false

def eqTV : Tr Value → Tr Value → Bool
  | .nil, .nil => true
  | .node l v r, .node l' v' r' => eqTV l l' && eqOV v v' && eqTV r r'
  | _, _ => false

def eqCap : Option (Nat × Nat) → Option (Nat × Nat) → Bool
  | none, none => true
  | some (a, b), some (c, d) => Nat.beq a c && Nat.beq b d
  | _, _ => false

def eqEs : List MapEntry → List MapEntry → Bool
  | [], [] => true
  | ⟨k, v, n⟩ :: l, ⟨k', v', n'⟩ :: l' => eqV k k' && eqV v v' && Nat.beq n n' && eqEs l l'
  | _, _ => false

def eqAO : AO → AO → Bool
  | .cells c z zs n cap e, .cells c' z' zs' n' cap' e' => eqTV c c' && veqN.veqL 5 z z' && Nat.beq zs zs' && Nat.beq n n' && eqCap cap cap' && Nat.beq e e'
  | .map es ck, .map es' ck' => eqEs es es' && Nat.beq ck ck'
  | .long c z zs es j e, .long c' z' zs' es' j' e' => eqTV c c' && veqN.veqL 5 z z' && Nat.beq zs zs' && Nat.beq es es' && Nat.beq j j' && Nat.beq e e'
  | _, _ => false

/-- is all of the first one in the second one? -/
def covT : Tr AO → Tr AO → Bool
  | .nil, _ => true
  | .node l v r, .nil => covT l .nil && covT r .nil && (match v with | none => true | some _ => false)
  | .node l v r, .node l' v' r' => covT l l' && covT r r' && (match v with
    | none => true
    | some o => (match v' with | some o' => eqAO o o' | none => false))

theorem eqV_sound {a b : Value} (h : eqV a b = true) : a = b := by
  unfold eqV at h
  split at h
  · rw [Array.ext' ((veq_sound 5).2 _ _ h)]
  · rw [Array.ext' ((veq_sound 5).2 _ _ h)]
  · exact (veq_sound 5).1 _ _ h

theorem eqOV_sound {a b : Option Value} (h : eqOV a b = true) : a = b := by
  cases a <;> cases b <;> simp only [eqOV, Bool.false_eq_true] at h
  · rfl
  · rw [eqV_sound h]

theorem eqTV_sound : ∀ (a b : Tr Value), eqTV a b = true → a = b := by
  intro a
  induction a with
  | nil => intro b h; cases b with
    | nil => rfl
    | node l v r => simp [eqTV] at h
  | node l v r ihl ihr =>
    intro b h
    cases b with
    | nil => simp [eqTV] at h
    | node l' v' r' =>
      simp only [eqTV, Bool.and_eq_true] at h
      rw [ihl _ h.1.1, ihr _ h.2, eqOV_sound h.1.2]

theorem eqCap_sound {a b : Option (Nat × Nat)} (h : eqCap a b = true) : a = b := by
  cases a <;> cases b <;> simp only [eqCap, Bool.false_eq_true, Bool.and_eq_true] at h
  · rfl
  · rename_i x y
    have h1 := Nat.eq_of_beq_eq_true h.1
    have h2 := Nat.eq_of_beq_eq_true h.2
    obtain ⟨x1, x2⟩ := x; obtain ⟨y1, y2⟩ := y
    simp only at h1 h2
    subst h1 h2; rfl

theorem eqEs_sound : ∀ (a b : List MapEntry), eqEs a b = true → a = b := by
  intro a
  induction a with
  | nil => intro b h; cases b with
    | nil => rfl
    | cons x l => simp [eqEs] at h
  | cons x l ih =>
    intro b h
    cases b with
    | nil => simp [eqEs] at h
    | cons y k =>
      obtain ⟨k1, v1, n1⟩ := x
      obtain ⟨k2, v2, n2⟩ := y
      simp only [eqEs, Bool.and_eq_true] at h
      rw [eqV_sound h.1.1.1, eqV_sound h.1.1.2, Nat.eq_of_beq_eq_true h.1.2, ih _ h.2]

theorem eqAO_sound {a b : AO} (h : eqAO a b = true) : a = b := by
  unfold eqAO at h
  split at h
  · simp only [Bool.and_eq_true] at h
    rw [eqTV_sound _ _ h.1.1.1.1.1, (veq_sound 5).2 _ _ h.1.1.1.1.2, Nat.eq_of_beq_eq_true h.1.1.1.2, Nat.eq_of_beq_eq_true h.1.1.2, eqCap_sound h.1.2, Nat.eq_of_beq_eq_true h.2]
  · simp only [Bool.and_eq_true] at h
    rw [eqEs_sound _ _ h.1, Nat.eq_of_beq_eq_true h.2]
  · simp only [Bool.and_eq_true] at h
    rw [eqTV_sound _ _ h.1.1.1.1.1, (veq_sound 5).2 _ _ h.1.1.1.1.2, Nat.eq_of_beq_eq_true h.1.1.1.2, Nat.eq_of_beq_eq_true h.1.1.2, Nat.eq_of_beq_eq_true h.1.2, Nat.eq_of_beq_eq_true h.2]
  · cases h

theorem covT_sound : ∀ (a b : Tr AO), covT a b = true → ∀ n o, a.get n = some o → b.get n = some o := by
  intro a
  induction a with
  | nil => intro b _ n o h; cases h
  | node l v r ihl ihr =>
    intro b h n o hg
    cases b with
    | nil =>
      simp only [covT, Bool.and_eq_true] at h
      obtain ⟨⟨h1, h2⟩, h3⟩ := h
      change cond (Nat.beq n 0) v (cond (Nat.beq (n % 2) 1) (l.get ((n - 1) / 2)) (r.get ((n - 1) / 2))) = some o at hg
      cases hn : Nat.beq n 0 with
      | true =>
        rw [hn] at hg
        simp only [cond_true] at hg
        subst hg; cases h3
      | false =>
        rw [hn] at hg
        simp only [cond_false] at hg
        cases hm : Nat.beq (n % 2) 1 with
        | true => rw [hm] at hg; have := ihl _ h1 _ _ hg; cases this
        | false => rw [hm] at hg; have := ihr _ h2 _ _ hg; cases this
    | node l' v' r' =>
      simp only [covT, Bool.and_eq_true] at h
      obtain ⟨⟨h1, h2⟩, h3⟩ := h
      change cond (Nat.beq n 0) v (cond (Nat.beq (n % 2) 1) (l.get ((n - 1) / 2)) (r.get ((n - 1) / 2))) = some o at hg
      change cond (Nat.beq n 0) v' (cond (Nat.beq (n % 2) 1) (l'.get ((n - 1) / 2)) (r'.get ((n - 1) / 2))) = some o
      cases hn : Nat.beq n 0 with
      | true =>
        rw [hn] at hg
        simp only [cond_true] at hg
        subst hg
        simp only [cond_true]
        cases v' with
        | none => cases h3
        | some o' => simp only at h3; rw [eqAO_sound h3]
      | false =>
        rw [hn] at hg
        simp only [cond_false] at hg
        simp only [cond_false]
        cases hm : Nat.beq (n % 2) 1 with
        | true => rw [hm] at hg; exact ihl _ h1 _ _ hg
        | false => rw [hm] at hg; exact ihr _ h2 _ _ hg

theorem Sit.less {F : Nat → Prop} {w0 : World} {lim : Nat} {E : Env} {h h1 : Tr AO} {nx : Nat} {w : World} (hS : Sit F w0 lim E h nx w) (hc : ∀ n o, h1.get n = some o → h.get n = some o) : Sit F w0 lim E h1 nx w :=
  ⟨fun id o e => hS.hr id o (hc _ _ e), fun i j oi oj b e1 e2 => hS.inj i j oi oj b (hc _ _ e1) (hc _ _ e2), hS.os, hS.tape, hS.output, hS.keeps, fun id o b e => hS.away id o b (hc _ _ e), hS.fresh, hS.gr⟩

end

/-- a part of a function's text -/
def subC : Code → List Nat → Code
  | c, [] => c
  | c, i :: l => match c with
    | .seq a b => bif Nat.beq i 0 then subC a l else subC b l
    | .cond _ a b => bif Nat.beq i 0 then subC a l else subC b l
    | .block _ b => subC b l
    | .loop b => subC b l
    | .scope b => subC b l
    | c => c
def bodyC (f : Func) : Code := match f.body with | some c => c | none => .skip
end Go.Proofs.Ex

namespace Go.Proofs.Ex
variable [Sg]
open Go.RowKit

/-- is what came back what is written down? -/
def outB (v1 : Value) (h1 : Tr AO) (nx1 : Nat) (r : Option (Value × Tr AO × Nat)) : Bool :=
  match r with
  | some (v, h, nx) => Nat.beq nx1 nx && eqV v1 v && covT h1 h
  | none => false

section
variable {P : Program} {L : Lk}

theorem XrOK.of {rec : S → Option S} (hL : LkOK P L) (hrec : Good P rec) {f : FuncId} {args : List Value} {h h' : Tr AO} {nx nx' : Nat} {v : Value} {s0 s1 : S}
    (he : enterA L h nx f args false = some s0) (hs : Sound P s0 s1) (hb : outB v h' nx' (backA L (rec s1)) = true) : XrOK P f args h nx v h' nx' := by
  classical
  let rec' : S → Option S := fun s => if s = s0 then rec s1 else none
  have hg : Good P rec' := by
    intro s s' hq
    by_cases hh : s = s0
    · simp only [rec', hh, if_true] at hq
      obtain ⟨g1, g2⟩ := hrec _ _ hq
      rw [hh]
      exact ⟨hs.trans g1, g2⟩
    · simp only [rec', hh, if_false] at hq
      cases hq
  have hr : rec' s0 = rec s1 := by simp only [rec', if_true]
  cases hq : backA L (rec s1) with
  | none => rw [hq] at hb; cases hb
  | some r =>
    obtain ⟨v2, h2, nx2⟩ := r
    rw [hq] at hb
    simp only [outB, Bool.and_eq_true] at hb
    have e1 := Nat.eq_of_beq_eq_true hb.1.1
    have e2 := eqV_sound hb.1.2
    have e3 := covT_sound _ _ hb.2
    subst e1 e2
    obtain ⟨q1, q2, q3, q4, q5, fd, cc, q6, q7, q8⟩ := enterA_frame (P := P) he
    obtain ⟨g1, g2⟩ := backA_sound hL hg (s := s0) (by rw [hr]; exact hq) (fun hne => absurd q5 hne)
    rw [q2] at g1
    refine ⟨g1, fun F w0 lim E w args' c cs hl hS ha => ?_⟩
    have := g2 F w0 lim E w (Frame.enter P f args' .normal) c cs hl (by rw [q1, q2]; exact hS) (q8 E args' ha (hL.fs _ _ q6)) (by rw [q4]; intro hk; cases hk)
    rw [q2, q4] at this
    obtain ⟨E', w', v', x1, x2, x3, x4⟩ := this
    exact ⟨E', w', v', x1, x2, x3.less e3, x4⟩

theorem LkOK.with (hL : LkOK P L) {o : Nat → List Value → Tr AO → Nat → Option (Value × Tr AO × Nat)} (ho : ∀ f args h nx v h' nx', o f args h nx = some (v, h', nx') → XrOK P f args h nx v h' nx') :
    LkOK P { L with orx := o } := ⟨hL.ti, hL.fs, hL.call, hL.ext, hL.orc, ho, hL.sbin, hL.sun, hL.scv, hL.wide, hL.smx⟩
end
end Go.Proofs.Ex

namespace Go.Proofs.Ex
variable [Sg]
open Go.RowKit

/-- p holds of all that a tree has; its first place is b, and a is the step -/
def Tr.AllAt {α : Type} (p : Nat → α → Prop) : Nat → Nat → Tr α → Prop
  | _, _, .nil => True
  | a, b, .node l v r => (∀ x, v = some x → p b x) ∧ AllAt p (2 * a) (a + b) l ∧ AllAt p (2 * a) (2 * a + b) r

theorem Tr.AllAt.get {α : Type} {p : Nat → α → Prop} : ∀ (t : Tr α) (a b : Nat), t.AllAt p a b → ∀ n x, t.get n = some x → p (a * n + b) x := by
  intro t
  induction t with
  | nil => intro a b _ n x h; cases h
  | node l v r ihl ihr =>
    intro a b h n x hg
    obtain ⟨h1, h2, h3⟩ := h
    change cond (Nat.beq n 0) v (cond (Nat.beq (n % 2) 1) (l.get ((n - 1) / 2)) (r.get ((n - 1) / 2))) = some x at hg
    cases hn : Nat.beq n 0 with
    | true =>
      rw [hn] at hg
      have : n = 0 := Nat.eq_of_beq_eq_true hn
      subst this
      simpa using h1 x hg
    | false =>
      rw [hn] at hg
      simp only [cond_false] at hg
      have hn0 : n ≠ 0 := fun e => by subst e; simp at hn
      cases hm : Nat.beq (n % 2) 1 with
      | true =>
        rw [hm] at hg
        have hm1 : n % 2 = 1 := Nat.eq_of_beq_eq_true hm
        have := ihl _ _ h2 _ _ hg
        obtain ⟨k, rfl⟩ : ∃ k, n = 2 * k + 1 := ⟨n / 2, by omega⟩
        have e : (2 * k + 1 - 1) / 2 = k := by omega
        rw [e] at this
        have e2 : 2 * a * k + (a + b) = a * (2 * k + 1) + b := by
          rw [Nat.mul_add, Nat.mul_one, Nat.mul_comm 2 a, Nat.mul_assoc]; omega
        rw [e2] at this
        exact this
      | false =>
        rw [hm] at hg
        have hm1 : n % 2 ≠ 1 := fun e => by rw [e] at hm; simp at hm
        have := ihr _ _ h3 _ _ hg
        obtain ⟨k, rfl⟩ : ∃ k, n = 2 * k + 2 := ⟨n / 2 - 1, by omega⟩
        have e : (2 * k + 2 - 1) / 2 = k := by omega
        rw [e] at this
        have e2 : 2 * a * k + (2 * a + b) = a * (2 * k + 2) + b := by
          rw [Nat.mul_add, Nat.mul_comm a 2, Nat.mul_comm 2 a, Nat.mul_assoc]; omega
        rw [e2] at this
        exact this

theorem Tr.AllAt.one {α : Type} {p : Nat → α → Prop} {a b c d e : Nat} {l r : Tr α} {x : α} (h1 : c = 2 * a) (h2 : d = a + b) (h3 : e = 2 * a + b) (hx : p b x) (hl : l.AllAt p c d) (hr : r.AllAt p c e) : Tr.AllAt p a b (.node l (some x) r) := by
  subst h1 h2 h3
  exact ⟨fun y h => by cases h; exact hx, hl, hr⟩
theorem Tr.AllAt.non {α : Type} {p : Nat → α → Prop} {a b c d e : Nat} {l r : Tr α} (h1 : c = 2 * a) (h2 : d = a + b) (h3 : e = 2 * a + b) (hl : l.AllAt p c d) (hr : r.AllAt p c e) : Tr.AllAt p a b (.node l none r) := by
  subst h1 h2 h3
  exact ⟨fun y h => (by cases h), hl, hr⟩
theorem Tr.AllAt.nil {α : Type} {p : Nat → α → Prop} {a b : Nat} : Tr.AllAt p a b (.nil : Tr α) := trivial

/-- a type's entry, and a function's -/
def okT (i : TypeInfo) (ti : TI) : Bool := Nat.beq i.size ti.size && Nat.beq i.bytes ti.bytes && (ti.agg == ti.desc.isRow) && closed ti.zero && Nat.beq ti.zero.cells.size ti.size

theorem TIok.of {P : Program} {t : TypeId} {i : TypeInfo} {ti : TI} (h : P.types[t]? = some i) (hd : P.underlying t = some ti.desc) (hz : i.zero = some ti.zero) (hk : okT i ti = true) : TIok P t ti := by
  simp only [okT, Bool.and_eq_true] at hk
  obtain ⟨⟨⟨⟨h1, h2⟩, h3⟩, h4⟩, h5⟩ := hk
  have e1 := Nat.eq_of_beq_eq_true h1
  have e2 := Nat.eq_of_beq_eq_true h2
  have e5 := Nat.eq_of_beq_eq_true h5
  refine ⟨⟨i, ?_, e1, e2, hz⟩, hd, eq_of_beq h3, fun E => VR.closed h4, e5⟩
  have hlt : t < P.types.size := (Array.getElem?_eq_some_iff.1 h).1
  show (if t < P.types.size then P.types[t]? else _) = some i
  rw [if_pos hlt, h]

def FnOK (P : Program) (f : FuncId) (fn : Func) : Prop := P.funcs[f]? = some fn ∧ ∀ c, fn.body = some c → ∀ args w, (callFunc f args).run P w = .ok (.enter f args) w
theorem FnOK.of {P : Program} {f : FuncId} {fn : Func} (h : P.funcs[f]? = some fn) (hc : ∀ args w, (callFunc f args).run P w = .ok (.enter f args) w) : FnOK P f fn := ⟨h, fun _ _ => hc⟩
theorem FnOK.non {P : Program} {f : FuncId} {fn : Func} (h : P.funcs[f]? = some fn) (hb : fn.body.isSome = false) : FnOK P f fn := ⟨h, fun c e => by rw [e] at hb; cases hb⟩
end Go.Proofs.Ex

namespace Go.Proofs.Ex
variable [Sg]
open Go.RowKit

section
variable {P : Program} {L : Lk}

theorem Calls.ofA {rec : S → Option S} (hL : LkOK P L) (hrec : Good P rec) {f : FuncId} {args : List Value} {h h' : Tr AO} {nx nx' : Nat} {v : Value} {s0 s1 : S}
    (he : enterA L h nx f args false = some s0) (hs : Sound P s0 s1) (hb : outB v h' nx' (backA L (rec s1)) = true)
    {F : Nat → Prop} {w0 : World} {lim : Nat} {E : Env} {w : World} {args' : Array Value} (hl : nx' ≤ lim) (hS : Sit F w0 lim E h nx w) (ha : LR E args args'.toList) :
    Calls P f args' w fun e w' => ∃ E' v', e = .returned v' ∧ VR E' v v' ∧ Ext E E' nx nx' ∧ Sit F w0 lim E' h' nx' w' := by
  intro cs
  cases hr : rec s1 with
  | none => rw [hr] at hb; cases hb
  | some s2 =>
    rw [hr] at hb
    obtain ⟨q1, q2, q3, q4, q5, fd, cc, q6, q7, q8⟩ := enterA_frame (P := P) he
    obtain ⟨k1, k2⟩ := hrec _ _ hr
    obtain ⟨g1, g2, g2a, g2b, g3⟩ := hs.trans k1
    obtain ⟨h1, n1, f1, tm1, nt1, todo1, df1, md1, kd1, rd1⟩ := s2
    simp only at g1 g2 g2a g2b
    have hrd : rd1 = none := g2b.trans q5
    subst hrd
    cases md1 with
    | true => simp only [backA] at hb; cases hb
    | false =>
      simp only [backA] at hb
      cases hv : resultA L tm1 h1 f1 with
      | none => rw [hv] at hb; cases hb
      | some v1 =>
        rw [hv] at hb
        simp only [outB, Bool.and_eq_true] at hb
        have e1 := Nat.eq_of_beq_eq_true hb.1.1
        have e2 := eqV_sound hb.1.2
        have e3 := covT_sound _ _ hb.2
        subst e1 e2
        obtain ⟨E', w', fr', x1, x2, x3, x4⟩ := g3 F w0 lim E w (Frame.enter P f args' .normal) cs hl (by rw [q1, q2]; exact hS) (by
          have := q8 E args' ha (hL.fs _ _ q6)
          exact this) (fun hk => by rw [q4] at hk; cases hk)
        rw [q2] at x1
        obtain ⟨fn', tmps', todo', defers', mode', kind', rd'⟩ := fr'
        obtain ⟨y1, y2, y3, y4, y5, y6, y7⟩ := x4
        simp only at y1 y2 y3 y4 y5 y6 y7
        have hdf : df1 = [] := by
          rcases k2 with hov | ⟨hov, _⟩
          · unfold overA at hov
            cases df1 with
            | nil => rfl
            | cons a l => simp at hov
          · cases hov
        subst hdf
        cases y4
        simp only [Bool.false_eq_true, if_false] at y5
        rw [g2, q4] at y6
        subst y1 y5 y6
        have hfd : ∃ fd, L.fs.get fn' = some fd := by
          unfold resultA at hv
          cases hq : L.fs.get fn' with
          | none => rw [hq] at hv; cases hv
          | some fd => exact ⟨fd, rfl⟩
        obtain ⟨fd2, q9⟩ := hfd
        obtain ⟨v', z1, z2⟩ := resultA_sound hL.ti x3.hr y2 q9 hv
        refine ⟨.returned v', w', _, ⟨E', v', rfl, z2, x1, x3.less e3⟩, x2, ?_, ?_⟩
        · exact g2a.trans q3
        · exact ⟨rfl, rfl, rfl, fd2, hL.fs _ _ q9, z1⟩

/-- nothing is known of a world -/
def noE : Env := ⟨fun _ => none, fun _ => none⟩
theorem noSit (w : World) (lim : Nat) (hg : Sg.G (fun k => k < w.heap.size) w) : Sit (fun k => k < w.heap.size) w lim noE .nil 0 w :=
  ⟨fun id o h => (by cases h), fun i j oi oj b h => (by cases h), rfl, rfl, rfl, fun k hk => ⟨hk, rfl⟩, fun id o b h => (by cases h), fun _ _ _ => ⟨rfl, rfl⟩, hg⟩

theorem Sit.below {lim : Nat} {E : Env} {h : Tr AO} {nx : Nat} {w w' : World} (hS : Sit (fun k => k < w.heap.size) w lim E h nx w') : Below w.heap.size w w' :=
  ⟨hS.os, hS.tape, hS.output, by
    rcases Nat.lt_or_ge w'.heap.size w.heap.size with hlt | hge
    · have := (hS.keeps w'.heap.size hlt).1; omega
    · exact hge, fun k hk => (hS.keeps k hk).2⟩

theorem LR.of_closed {E : Env} : ∀ {l : List Value}, allClosed l = true → LR E l l := by
  intro l
  induction l with
  | nil => intro _; exact LR.nil E
  | cons v l ih =>
    intro h
    simp only [allClosed, Bool.and_eq_true] at h
    exact LR.cons (VR.closed h.1) (ih h.2)

end
end Go.Proofs.Ex
