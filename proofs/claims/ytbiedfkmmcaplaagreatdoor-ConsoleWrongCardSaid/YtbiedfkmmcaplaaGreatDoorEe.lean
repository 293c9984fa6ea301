/- Regions that draw their order and break off at one operation: all ahead of it is done by then, nothing behind it. No program is imported. Runs that end in a panic, and calls whose deferred closure recovers it. No program is imported. A deferred closure that begins with recover, over a frame that pan -/
import Derived.Test.YtbiedfkmmcaplaaGreatDoorEd
import Derived.Defers
set_option linter.all false
namespace Go.Proofs.Ex
open Go.RowKit
variable [Sg]

section
variable {P : Program} {L : Lk} {rec : S → Option S} {ops opsM : Array Oper} {nt : Nat} {D : Nat → DS} {V : Nat → Value} {T : Nat → DK}
  (hL : LkOK P L) (hrec : Good P rec) (hD : ∀ j o, ops[j]? = some o → DStep P L rec ops (masksA ops.toList []) nt j o (D j) (D (j + 1)) (V j) (T j)) (hR : RegOK ops (masksA ops.toList []))
  (hfl0 : (D 0).fl = []) (hhist0 : (D 0).hist = [])
  {F : Nat → Prop} {w0 : World} {lim : Nat} {E0 : Env} {df : List Deferred} {kd : Bool} {rd rd' : Option Nat} {cs : List Frame} {fn : FuncId} {kk : List Item}
  (hlim : (D ops.size).nx ≤ lim) (hup : UpR kd cs)
  {N : Nat} {av : Nat → Bool}
  (hM : ∀ (i : Nat) (o : Oper), av i = true → opsM[i]? = some o → ops[i]? = some o) (hG : ∀ (o : Oper) (tm : Tr Value), guardOf tm opsM o.guard = guardOf tm ops o.guard)
  (hback : ∀ (i : Nat) (o : Oper), opsM[i]? = some o → ∀ e ∈ o.after.toList, Region.binds .any e = true → e.on < i)
  (hsz : opsM.size = ops.size) (hN : N < ops.size) (hav : ∀ j, j < N → av j = true) (havN : av N = false)
  (hcov : ∀ j, j < N → ∀ o, opsM[N]? = some o → ∃ e ∈ o.after.toList, Region.binds .any e = true ∧ e.on < N ∧ (e.on = j ∨ ((masksA ops.toList []).getD e.on 0).testBit j = true))
  (hlater : ∀ (i : Nat) (o : Oper), av i = false → i ≠ N → opsM[i]? = some o → ∃ e ∈ o.after.toList, Region.binds .any e = true ∧ av e.on = false)
include hL hrec hD hR hfl0 hhist0 hlim hup hM hG hback hsz hN hav havN hcov hlater

theorem ordersB (hdom : ∀ i, i ≤ ops.size → ∀ id, (D i).nx ≤ id → id < lim → (D i).h.get id = none) : ∀ (fuel tt : Nat) (listed : Array Bool), listed.size = opsM.size → (left opsM.size listed).length = fuel → (∀ j, av j = false → listed.getD j false = false) →
    ∀ {w : World} {hk : Tr AO} {tmS : Tr Value} {t : Array Value} {d : List Deferred} {E : Env} {c : Nat},
    Inv ops (masksA ops.toList []) nt D V T F w0 lim E0 df kd rd rd' (fun k => k < ops.size ∧ listed.getD k false = true) c E w hk tmS t d →
    ∃ (listed' : Array Bool) (rest : List Nat) (c' : Nat) (E' : Env) (w' : World) (hk' : Tr AO) (tm' : Tr Value) (t' : Array Value) (d' : List Deferred), Steps P (lone ⟨fn, t, .inRegion opsM (Region.linearise.go .any opsM fuel tt listed []) :: kk, d, .run, kindOf kd, rd'⟩ cs w) (lone ⟨fn, t', .inRegion opsM (N :: rest) :: kk, d', .run, kindOf kd, rd'⟩ cs w') ∧
      (∀ j, j < N → listed'.getD j false = true) ∧ (∀ j, av j = false → listed'.getD j false = false) ∧
      Inv ops (masksA ops.toList []) nt D V T F w0 lim E0 df kd rd rd' (fun k => k < ops.size ∧ listed'.getD k false = true) c' E' w' hk' tm' t' d' := by
  intro fuel
  induction fuel with
  | zero =>
    intro tt listed hls hleft hun
    exfalso
    have h1 : left opsM.size listed = [] := List.length_eq_zero_iff.1 hleft
    unfold left at h1
    rw [List.filter_eq_nil_iff] at h1
    have := h1 N (by rw [hsz]; simpa using hN)
    rw [hun N havN] at this
    simp at this
  | succ fuel ih =>
    intro tt listed hls hleft hun w hk tmS t d E c I
    have hgo : Region.linearise.go .any opsM (fuel + 1) tt listed [] = (match (Region.ready .any opsM listed)[tt % (Region.ready .any opsM listed).length]? with
        | some i => Region.linearise.go .any opsM fuel (tt / (Region.ready .any opsM listed).length) (listed.setIfInBounds i true) [i]
        | none => [].reverse) := rfl
    have hne : ∃ i, i ∈ Region.ready .any opsM listed := by
      have h1 : left opsM.size listed ≠ [] := by intro e; rw [e] at hleft; simp at hleft
      obtain ⟨k0, hk0⟩ := List.exists_mem_of_ne_nil _ h1
      unfold left at hk0
      rw [List.mem_filter] at hk0
      have hex : ∃ k, k < opsM.size ∧ listed.getD k false = false ∧ ∀ j, j < k → listed.getD j false = true := by
        have hk1 : k0 < opsM.size := by simpa using hk0.1
        have hk2 : listed.getD k0 false = false := by simpa using hk0.2
        clear hk0 h1
        induction k0 using Nat.strongRecOn with
        | ind k0 ihk =>
          by_cases hx : ∃ j, j < k0 ∧ listed.getD j false = false
          · obtain ⟨j, a, b⟩ := hx
            exact ihk j a (by omega) b
          · exact ⟨k0, hk1, hk2, fun j hj => by
              cases hq : listed.getD j false with
              | true => rfl
              | false => exact absurd ⟨j, hj, hq⟩ hx⟩
      obtain ⟨k, a, b, z⟩ := hex
      refine ⟨k, ?_⟩
      rw [mem_ready]
      have hk : k < listed.size := by omega
      refine ⟨?_, opsM[k], by simp [a], fun e he hb => z e.on (hback k opsM[k] (by simp [a]) e (by simpa using he) hb)⟩
      rw [Array.getD_eq_getD_getElem?] at b ⊢
      simpa [hk] using b
    cases hi : (Region.ready .any opsM listed)[tt % (Region.ready .any opsM listed).length]? with
    | none =>
      exfalso
      obtain ⟨i, hi2⟩ := hne
      have hlen : 0 < (Region.ready .any opsM listed).length := List.length_pos_of_mem hi2
      rw [List.getElem?_eq_none_iff] at hi
      have := Nat.mod_lt tt hlen
      omega
    | some i =>
      have him : i ∈ Region.ready .any opsM listed := List.mem_of_getElem? hi
      rw [mem_ready] at him
      obtain ⟨h1, o, ho, hedges⟩ := him
      have hin : i < opsM.size := (Array.getElem?_eq_some_iff.1 ho).1
      have hil : i < listed.size := by omega
      have hni : listed.getD i false = false := by
        rw [Array.getD_eq_getD_getElem?] at h1 ⊢
        simpa [hil] using h1
      have hacc : Region.linearise.go .any opsM (fuel + 1) tt listed [] = i :: Region.linearise.go .any opsM fuel (tt / (Region.ready .any opsM listed).length) (listed.setIfInBounds i true) [] := by
        rw [hgo, hi]
        simp only
        rw [linearise_go_acc]
        rfl
      cases hai : av i with
      | true =>
        have hio := hM i o hai ho
        have hlt : i < ops.size := by omega
        have hready : ∀ j, ((masksA ops.toList []).getD i 0).testBit j = true → j < ops.size ∧ listed.getD j false = true := by
          intro j hj
          obtain ⟨o2, ho2, e, he, hb, hei, hor⟩ := mask_spec hj hR.back
          rw [hio] at ho2; cases ho2
          have hel := hedges e (by simpa using he) hb
          rcases hor with h | h
          · rw [← h]; exact ⟨by omega, hel⟩
          · exact I.clo e.on ⟨by omega, hel⟩ j h
        obtain ⟨c2, E2, w2, hk2, tm2, t2, d2, s2, I2⟩ := draw_step (cs := cs) (fn := fn) (kk := kk) hL hrec hD hR hfl0 hhist0 (mask_lt hR.back) hlim hup I hio (fun h => by rw [hni] at h; exact Bool.noConfusion h.2) hready (fun _ => hdom i (by omega)) ⟨ho, fun tm => hG o tm⟩
          (Region.linearise.go .any opsM fuel (tt / (Region.ready .any opsM listed).length) (listed.setIfInBounds i true) [])
        have e : (fun k : Nat => (k < ops.size ∧ listed.getD k false = true) ∨ k = i) = fun k => k < ops.size ∧ (listed.setIfInBounds i true).getD k false = true := by
          funext k
          apply propext
          by_cases hk : k = i
          · subst hk
            exact ⟨fun _ => ⟨hlt, by simp [hil]⟩, fun _ => .inr rfl⟩
          · have e1 : (listed.setIfInBounds i true).getD k false = listed.getD k false := by
              simp only [Array.getD_eq_getD_getElem?]
              rw [Array.getElem?_setIfInBounds_ne (Ne.symm hk)]
            rw [e1]
            exact ⟨fun h => h.resolve_right hk, .inl⟩
        rw [e] at I2
        obtain ⟨listed', rest, c3, E3, w3, hk3, tm3, t3, d3, s3, I3⟩ := ih (tt / (Region.ready .any opsM listed).length) (listed.setIfInBounds i true) (by simpa using hls) (by have := left_set hls hin hni; omega) (fun j hj => by
          have hne : j ≠ i := fun e => by rw [e, hai] at hj; cases hj
          simp only [Array.getD_eq_getD_getElem?]
          rw [Array.getElem?_setIfInBounds_ne (Ne.symm hne)]
          have := hun j hj
          rw [Array.getD_eq_getD_getElem?] at this
          exact this) I2
        refine ⟨listed', rest, c3, E3, w3, hk3, tm3, t3, d3, ?_, I3⟩
        rw [hacc]
        exact Steps.trans s2 s3
      | false =>
        by_cases hiN : i = N
        · subst hiN
          rw [hacc]
          refine ⟨listed, _, c, E, w, hk, tmS, t, d, Steps.refl _ _, fun j hj => ?_, hun, I⟩
          obtain ⟨e, he, hb, hlt, hor⟩ := hcov j hj o ho
          have hel := hedges e (by simpa using he) hb
          rcases hor with h2 | h2
          · rw [← h2]; exact hel
          · exact (I.clo e.on ⟨by omega, hel⟩ j h2).2
        · exfalso
          obtain ⟨e, he, hb, hge⟩ := hlater i o hai hiN ho
          have hel := hedges e (by simpa using he) hb
          rw [hun e.on hge] at hel
          cases hel
end
end Go.Proofs.Ex

namespace Go.Proofs.Ex
open Go.RowKit
variable [Sg]

structure PX where
  v : Value
  h : Tr AO
  nx : Nat
  tm : Tr Value
  df : List Deferred
  ok : Bool

noncomputable def boomC (L : Lk) (bl : S → Option PX) (h : Tr AO) (nx : Nat) (f : FuncId) (args : List Value) (tm : Tr Value) (df : List Deferred) : Option PX :=
  match enterA L h nx f args false with
  | some s => (match bl s with
    | some ⟨v, h, nx, _, d, _⟩ => (match d with | [] => some ⟨v, h, nx, tm, df, true⟩ | _ => none)
    | none => none)
  | none => none

noncomputable def boomP (tm : Tr Value) (h : Tr AO) (nx : Nat) (df : List Deferred) (v : Option Value) : Option PX :=
  match v with
  | some (.iface t v) => some ⟨.iface t v, h, nx, tm, df, true⟩
  | _ => none

noncomputable def boomA (P : Program) (L : Lk) (bl : S → Option PX) (op : Op) (tm : Tr Value) (h : Tr AO) (nx : Nat) (df : List Deferred) : Option PX :=
  match op with
  | .panic x => boomP tm h nx df (ev tm x)
  | .call c => (match aop P L tm h nx (.call c) with
    | some (.enter f args) => boomC L bl h nx f args tm df
    | _ => none)
  | _ => none

noncomputable def blowOps (P : Program) (L : Lk) (rec : S → Option S) (bl : S → Option PX) (ops : Array Oper) (nt : Nat) (l : List Oper) : G → Option (Sum G PX) :=
  List.rec (fun g => some (.inl g)) (fun o _ ih g => match o, g with
    | ⟨dst, op, _, _, _, gd⟩, ⟨tm, h, nx, df⟩ => (match opA P L rec false none ops nt dst op gd tm h nx df (fun g => some g) with
      | some g => ih g
      | none => (match guardOf tm ops gd with
        | some true => (match boomA P L bl op tm h nx df with | some px => some (.inr px) | none => none)
        | _ => none))) l

def dull (o : Oper) : Oper := { o with op := .move (.const (.bool false)), guard := none }
def avJ (ops : List Oper) (N j : Nat) : Bool := Nat.blt j N || (Nat.blt N j && (match ops[j]? with
  | some q => q.after.toList.all fun e => !Region.binds .any e || Nat.blt e.on N
  | none => false))
def dullO (ops : List Oper) (N : Nat) : List Oper := ops.zipIdx.map fun x => bif avJ ops N x.2 then x.1 else dull x.1

def coverOK (ops : Array Oper) (o : Oper) (N : Nat) : Bool :=
  (List.range N).all (fun j => o.after.toList.any fun e => Region.binds .any e && Nat.blt e.on N && (Nat.beq e.on j || ((masksA (dullO ops.toList N) []).getD e.on 0).testBit j)) &&
  ops.toList.zipIdx.all (fun x => avJ ops.toList N x.2 || Nat.beq x.2 N || x.1.after.toList.any fun e => Region.binds .any e && !avJ ops.toList N e.on) &&
  ops.toList.zipIdx.all (fun x => Nat.blt x.2 N || (match x.1.dst with | none => true | some d => (o.looksAt ops).all fun t => !Nat.beq t d))

noncomputable def blowD (P : Program) (L : Lk) (rec : S → Option S) (bl : S → Option PX) (h : Tr AO) (nx : Nat) (tm : Tr Value) (nt : Nat) (df : List Deferred) (ops : Array Oper) (N : Nat) (o : Oper) : Option PX :=
  cond (regOK (dullO ops.toList N).toArray (masksA (dullO ops.toList N) []) && coverOK ops o N) (match drawOps P L rec (dullO ops.toList N).toArray (masksA (dullO ops.toList N) []) nt (dullO ops.toList N) 0 ⟨tm, h, nx, [], [], []⟩ with
    | some ⟨tm, h, nx, fl, hi, _⟩ => cond (hi.all fun x => Nat.blt x.1 N) (match guardOf tm ops o.guard with
      | some true => (match boomA P L bl o.op tm (setFl h (fl.filter fun x => Nat.blt x.1 N)) nx df with
        | some ⟨v, h, nx, tm, df, _⟩ => some ⟨v, h, nx, tm, df, false⟩
        | none => none)
      | _ => none) none
    | none => none) none

noncomputable def blowDN (P : Program) (L : Lk) (rec : S → Option S) (bl : S → Option PX) (h : Tr AO) (nx : Nat) (tm : Tr Value) (nt : Nat) (df : List Deferred) (ops : Array Oper) (N : Nat) : Option PX :=
  match ops.toList[N]? with
  | some o => blowD P L rec bl h nx tm nt df ops N o
  | none => none

noncomputable def stopT (s : S) : Option S :=
  match s with
  | ⟨h, nx, fn, tm, nt, todo, df, md, kd, rd⟩ => (match md, rd with
    | true, none => some ⟨h, nx, fn, tm, nt, todo, df, true, kd, none⟩
    | _, _ => none)

noncomputable def blowR (P : Program) (L : Lk) (rec : S → Option S) (bl : S → Option PX) (h : Tr AO) (nx : Nat) (fn : FuncId) (tm : Tr Value) (nt : Nat) (k : List Item) (df : List Deferred) (ops : Array Oper) : Option PX :=
  match blowOps P L rec bl ops nt ops.toList ⟨tm, h, nx, df⟩ with
  | some (.inl ⟨tm, h, nx, df⟩) => bl ⟨h, nx, fn, tm, nt, k, df, true, false, none⟩
  | some (.inr px) => some px
  | none => none

noncomputable def blowI (P : Program) (L : Lk) (bt : Nat → Nat → Option Nat) (rec : S → Option S) (bl : S → Option PX) (h : Tr AO) (nx : Nat) (fn : FuncId) (tm : Tr Value) (nt : Nat) (todo : List Item) (df : List Deferred) : Option PX :=
  match todo with
  | .code (.region _ ops false) :: k => blowR P L rec bl h nx fn tm nt k df ops
  | .code (.region id ops true) :: k => (match bt fn id with
    | some N => blowDN P L rec bl h nx tm nt df ops N
    | none => (match drawF P L rec h nx fn tm nt k df false none ops with
      | some s => bl s
      | none => none))
  | todo => (match stepA P L stopT ⟨h, nx, fn, tm, nt, todo, df, true, false, none⟩ with
    | some s => bl s
    | none => none)

noncomputable def blowS (P : Program) (L : Lk) (bt : Nat → Nat → Option Nat) (rec : S → Option S) (n : Nat) : S → Option PX :=
  Nat.rec (fun _ => none) (fun _ ih s => match s with
    | ⟨h, nx, fn, tm, nt, todo, df, md, kd, rd⟩ => (match md, kd, rd with
      | true, false, none => blowI P L bt rec ih h nx fn tm nt todo df
      | _, _, _ => none)) n

def BlowOK (P : Program) (s : S) (px : PX) : Prop :=
  s.kd = false ∧ s.nx ≤ px.nx ∧ ∀ (F : Nat → Prop) (w0 : World) (lim : Nat) (E : Env) (w : World) (fr : Frame) (cs : List Frame), px.nx ≤ lim → Sit F w0 lim E s.h s.nx w → FrR E s fr →
    ∃ E' w' fr' v', Ext E E' s.nx px.nx ∧ Steps P (lone fr cs w) (lone fr' cs w') ∧ Sit F w0 lim E' px.h px.nx w' ∧ fr'.mode = .panicking [{ v := v', recovered := false }] ∧ VR E' px.v v' ∧
      fr'.fn = s.fn ∧ fr'.kind = .normal ∧ (px.ok = true → ∃ nt', TmR E' px.tm nt' fr'.tmps) ∧ DefsR E' px.df fr'.defers

section
variable {P : Program} {L : Lk} {rec : S → Option S}

theorem stopT_good : Good P stopT := by
  intro s s' h
  obtain ⟨h0, nx, fn, tm, nt, todo, df, md, kd, rd⟩ := s
  unfold stopT at h
  simp only at h
  split at h
  · cases h
    exact ⟨.refl _ _, .inr ⟨rfl, rfl⟩⟩
  · cases h

section
variable {fn : FuncId} {t : Array Value} {k : List Item} {d : List Deferred} {kd : CallKind} {rd : Option Nat} {cs : List Frame} {w : World}
theorem st_op_panic {ops : Array Oper} {i : Nat} {rest : List Nat} {o : Oper} (ho : ops[i]? = some o) (hw : Region.wanted o (yielded ops t) = true) (hnd : rd = none ∨ ∀ c, o.op ≠ .defer c) {v : Value} {w' : World}
    (hr : (execOp (Act.eval ⟨t, []⟩) o).run P w = .halt (.panic v) w') :
    step P (lone ⟨fn, t, .inRegion ops (i :: rest) :: k, d, .run, kd, rd⟩ cs w) = .next (lone ⟨fn, t, .inRegion ops (i :: rest) :: k, d, .panicking [{ v, recovered := false }], kd, rd⟩ cs w') := by
  refine step_lone_go ?_
  rw [stepG_op' ho hw hnd]
  simp [stepG.apply, hr, Frame.raise]
end

theorem boomA_sound (hL : LkOK P L) {bl : S → Option PX} (hbl : ∀ s px, bl s = some px → BlowOK P s px) {ops : Array Oper} {nt i : Nat} {rest : List Nat} {o : Oper} (ho : ops[i]? = some o) {tm : Tr Value} {h : Tr AO} {nx : Nat} {df : List Deferred} {px : PX}
    (he : boomA P L bl o.op tm h nx df = some px) (hgd : guardOf tm ops o.guard = some true) :
    nx ≤ px.nx ∧ ∀ (F : Nat → Prop) (w0 : World) (lim : Nat) (E : Env) (w : World) (fn : FuncId) (t : Array Value) (k : List Item) (d : List Deferred) (cs : List Frame), px.nx ≤ lim → Sit F w0 lim E h nx w → TmR E tm nt t → DefsR E df d →
      ∃ E' w' fr' v', Ext E E' nx px.nx ∧ Steps P (lone ⟨fn, t, .inRegion ops (i :: rest) :: k, d, .run, .normal, none⟩ cs w) (lone fr' cs w') ∧ Sit F w0 lim E' px.h px.nx w' ∧ fr'.mode = .panicking [{ v := v', recovered := false }] ∧ VR E' px.v v' ∧
        fr'.fn = fn ∧ fr'.kind = .normal ∧ (px.ok = true → ∃ nt', TmR E' px.tm nt' fr'.tmps) ∧ DefsR E' px.df fr'.defers := by
  unfold boomA at he
  split at he
  · rename_i x hop
    unfold boomP at he
    split at he
    · rename_i t0 v0 hv
      cases he
      refine ⟨Nat.le_refl _, fun F w0 lim E w fn t k d cs hl hS ht hd => ?_⟩
      have hvr := ht.ev x _ hv
      have hw := guard_sound ht hgd
      generalize hu : Act.eval ⟨t, []⟩ x = u at hvr
      cases hvr with
      | iface _ hv' =>
        rename_i v'
        have hr : (execOp (Act.eval ⟨t, []⟩) o).run P w = .halt (.panic (.iface t0 v')) w := by
          unfold execOp
          simp only [hop, hu]
          rfl
        exact ⟨E, w, _, _, .refl _ _ _, Steps.one (st_op_panic ho hw (.inl rfl) hr), hS, rfl, .iface _ hv', rfl, rfl, fun _ => ⟨_, ht⟩, hd⟩
    · cases he
  · rename_i c hop
    split at he
    · rename_i f args hr
      unfold boomC at he
      split at he
      · rename_i s hs
        split at he
        · rename_i v1 h1 nx1 tm1 d1 ok1 hb
          split at he
          · cases he
            obtain ⟨b0, b1, b2⟩ := hbl _ _ hb
            obtain ⟨e1, e2, e3, e4, e5, fd, cc, e6, e7, e8⟩ := enterA_frame (P := P) hs
            simp only at b1
            rw [e2] at b1
            refine ⟨b1, fun F w0 lim E w fn t k d cs hl hS ht hd => ?_⟩
            have hr' : aop P L tm h nx o.op = some (.enter f args) := by rw [hop]; exact hr
            obtain ⟨args', q1, q2⟩ := aop_sound hL hS (fun x v hx => ht.ev x v hx) hr'
            have hw := guard_sound ht hgd
            have s1 := Steps.one (st_op_enter (fn := fn) (k := k) (d := d) (kd := .normal) (rd := none) (cs := cs) (rest := rest) ho hw (.inl rfl) q1)
            have hfs := hL.fs _ _ e6
            obtain ⟨E', w', fr', v', x1, x2, x3, x4, x5, x6, x7, x8, x9⟩ := b2 F w0 lim E w (Frame.enter P f args' .normal) (⟨fn, t, .inRegion ops (i :: rest) :: k, d, .run, .normal, none⟩ :: cs) hl (by rw [e1, e2]; exact hS) (e8 E args' q2 hfs)
            rw [e2] at x1
            have hdf : fr'.defers = [] := by generalize fr'.defers = dd at x9 ⊢; cases x9; rfl
            have hlv : fr'.leaving P w' (.panicked [{ v := v', recovered := false }]) := ⟨x4, hdf, fd, by rw [x6, e3]; exact hfs⟩
            refine ⟨E', w', _, v', x1, s1.trans (x2.trans (Steps.one (step_leave_panicked hlv))), x3, rfl, x5, rfl, rfl, fun _ => ⟨_, ht.mono x1.1⟩, hd.mono x1.1⟩
          · cases he
        · cases he
      · cases he
    · cases he
  · cases he

def BRegOK (P : Program) (ops : Array Oper) (nt i : Nat) (g : G) : Sum G PX → Prop
  | .inl g' => g.nx ≤ g'.nx ∧ ∀ (F : Nat → Prop) (w0 : World) (lim : Nat) (E : Env) (w : World) (fn : FuncId) (t : Array Value) (k : List Item) (d : List Deferred) (cs : List Frame), g'.nx ≤ lim → Sit F w0 lim E g.h g.nx w → TmR E g.tm nt t → DefsR E g.df d →
      ∃ E' w' t' d', Ext E E' g.nx g'.nx ∧ Steps P (lone ⟨fn, t, .inRegion ops ((List.range ops.size).drop i) :: k, d, .run, .normal, none⟩ cs w) (lone ⟨fn, t', .inRegion ops [] :: k, d', .run, .normal, none⟩ cs w') ∧ Sit F w0 lim E' g'.h g'.nx w' ∧ TmR E' g'.tm nt t' ∧ DefsR E' g'.df d'
  | .inr px => g.nx ≤ px.nx ∧ ∀ (F : Nat → Prop) (w0 : World) (lim : Nat) (E : Env) (w : World) (fn : FuncId) (t : Array Value) (k : List Item) (d : List Deferred) (cs : List Frame), px.nx ≤ lim → Sit F w0 lim E g.h g.nx w → TmR E g.tm nt t → DefsR E g.df d →
      ∃ E' w' fr' v', Ext E E' g.nx px.nx ∧ Steps P (lone ⟨fn, t, .inRegion ops ((List.range ops.size).drop i) :: k, d, .run, .normal, none⟩ cs w) (lone fr' cs w') ∧ Sit F w0 lim E' px.h px.nx w' ∧ fr'.mode = .panicking [{ v := v', recovered := false }] ∧ VR E' px.v v' ∧
        fr'.fn = fn ∧ fr'.kind = .normal ∧ (px.ok = true → ∃ nt', TmR E' px.tm nt' fr'.tmps) ∧ DefsR E' px.df fr'.defers

theorem blowOps_sound (hL : LkOK P L) (hrec : Good P rec) {bl : S → Option PX} (hbl : ∀ s px, bl s = some px → BlowOK P s px) {ops : Array Oper} {nt : Nat} : ∀ (l : List Oper) (i : Nat), l = ops.toList.drop i → ∀ (g : G) (r : Sum G PX), blowOps P L rec bl ops nt l g = some r → BRegOK P ops nt i g r := by
  intro l
  induction l with
  | nil =>
    intro i hi g r he
    have he' : some (Sum.inl g) = some r := he
    cases he'
    refine ⟨Nat.le_refl _, fun F w0 lim E w fn t k d cs hl hS ht hd => ⟨E, w, t, d, .refl _ _ _, ?_, hS, ht, hd⟩⟩
    have : (List.range ops.size).drop i = [] := by
      have h1 : ops.toList.length ≤ i := List.drop_eq_nil_iff.1 hi.symm
      exact List.drop_eq_nil_iff.2 (by simpa using h1)
    rw [this]
    exact Steps.refl _ _
  | cons o l ih =>
    intro i hi g r he
    have hlt : i < ops.size := by
      rcases Nat.lt_or_ge i ops.size with h | h
      · exact h
      · rw [List.drop_eq_nil_iff.2 (by simpa using h)] at hi; cases hi
    have ho : ops[i]? = some o := by
      have : ops.toList[i]? = some o := by
        rw [← List.head?_drop, ← hi]; rfl
      simpa using this
    have hl' : l = ops.toList.drop (i + 1) := by
      rw [← List.tail_drop, ← hi]; rfl
    have hr : (List.range ops.size).drop i = i :: (List.range ops.size).drop (i + 1) := by
      rw [List.drop_eq_getElem_cons (by simpa using hlt)]; simp
    obtain ⟨tm, h, nx, df⟩ := g
    obtain ⟨dst, op, ty, ps, af, gd⟩ := o
    have he' : (match opA P L rec false none ops nt dst op gd tm h nx df (fun g => some g) with
      | some g => blowOps P L rec bl ops nt l g
      | none => (match guardOf tm ops gd with
        | some true => (match boomA P L bl op tm h nx df with | some px => some (.inr px) | none => none)
        | _ => none)) = some r := he
    split at he'
    · rename_i g0 hop
      obtain ⟨g1, q1, q2, q3⟩ := opA_sound (i := i) (rest := (List.range ops.size).drop (i + 1)) hL hrec ho hop
      cases q1
      have hih := ih (i + 1) hl' g0 r he'
      cases r with
      | inl g' =>
        obtain ⟨p1, p2⟩ := hih
        refine ⟨Nat.le_trans q2 p1, fun F w0 lim E w fn t k d cs hlim hS ht hd => ?_⟩
        obtain ⟨E1, w1, t1, d1, x1, x2, x3, x4, x5⟩ := q3 F w0 lim E w fn t k d none cs (Nat.le_trans p1 hlim) hS ht hd trivial (fun hk => by cases hk)
        obtain ⟨E2, w2, t2, d2, y1, y2, y3, y4, y5⟩ := p2 F w0 lim E1 w1 fn t1 k d1 cs hlim x3 x4 x5
        exact ⟨E2, w2, t2, d2, x1.trans y1 q2 p1, by rw [hr]; exact Steps.trans x2 y2, y3, y4, y5⟩
      | inr px =>
        obtain ⟨p1, p2⟩ := hih
        refine ⟨Nat.le_trans q2 p1, fun F w0 lim E w fn t k d cs hlim hS ht hd => ?_⟩
        obtain ⟨E1, w1, t1, d1, x1, x2, x3, x4, x5⟩ := q3 F w0 lim E w fn t k d none cs (Nat.le_trans p1 hlim) hS ht hd trivial (fun hk => by cases hk)
        obtain ⟨E2, w2, fr', v', y1, y2, y3⟩ := p2 F w0 lim E1 w1 fn t1 k d1 cs hlim x3 x4 x5
        exact ⟨E2, w2, fr', v', x1.trans y1 q2 p1, by rw [hr]; exact Steps.trans x2 y2, y3⟩
    · split at he'
      · rename_i hgd
        split at he'
        · rename_i px hpx
          cases he'
          obtain ⟨p1, p2⟩ := boomA_sound (rest := (List.range ops.size).drop (i + 1)) hL hbl ho hpx hgd
          refine ⟨p1, fun F w0 lim E w fn t k d cs hlim hS ht hd => ?_⟩
          rw [hr]
          exact p2 F w0 lim E w fn t k d cs hlim hS ht hd
        · cases he'
      · cases he'

theorem dullO_at (l : List Oper) (N j : Nat) : (dullO l N)[j]? = (l[j]?).map fun q => bif avJ l N j then q else dull q := by
  unfold dullO
  rw [List.getElem?_map, List.getElem?_zipIdx]
  cases l[j]? <;> simp

theorem dull_after (b : Bool) (q : Oper) : (bif b then q else dull q).after = q.after := by cases b <;> rfl
theorem dull_dst (b : Bool) (q : Oper) : (bif b then q else dull q).dst = q.dst := by cases b <;> rfl

theorem boomA_congr {bl : S → Option PX} {op : Op} {tm tm' : Tr Value} {h : Tr AO} {nx : Nat} {df : List Deferred} {px : PX} (ha : Agree tm tm' op.operands.toList) (he : boomA P L bl op tm h nx df = some px) :
    ∃ px', boomA P L bl op tm' h nx df = some px' ∧ px'.v = px.v ∧ px'.h = px.h ∧ px'.nx = px.nx ∧ px'.df = px.df := by
  unfold boomA at he ⊢
  split at he
  · rename_i x
    have e : ev tm x = ev tm' x := ha.ev (by simp [Op.operands])
    rw [e] at he
    unfold boomP at he ⊢
    split at he
    · rename_i t v hv
      cases he
      exact ⟨_, rfl, rfl, rfl, rfl, rfl⟩
    · cases he
  · rename_i c
    have e := aop_congr (P := P) (L := L) (h := h) (nx := nx) (.call c) ha
    rw [e] at he
    split at he
    · rename_i f args hr
      unfold boomC at he ⊢
      split at he
      · rename_i s hs
        split at he
        · rename_i v1 h1 nx1 tm1 d1 ok1 hb
          split at he
          · cases he
            exact ⟨_, rfl, rfl, rfl, rfl, rfl⟩
          · cases he
        · cases he
      · cases he
    · cases he
  · cases he

theorem blowD_sound (hm : P.follows .mixedOrders = true) (hL : LkOK P L) (hrec : Good P rec) {bl : S → Option PX} (hbl : ∀ s px, bl s = some px → BlowOK P s px) {h : Tr AO} {nx : Nat} {fn : FuncId} {tm : Tr Value} {nt : Nat} {k : List Item} {df : List Deferred} {id : Nat} {ops : Array Oper} {N : Nat} {o : Oper} {px : PX}
    (hoN : ops.toList[N]? = some o) (he : blowD P L rec bl h nx tm nt df ops N o = some px) : BlowOK P ⟨h, nx, fn, tm, nt, .code (.region id ops true) :: k, df, true, false, none⟩ px := by
  unfold blowD at he
  obtain ⟨hok, he⟩ := cond_some he
  rw [Bool.and_eq_true] at hok
  have hR := regOK_sound hok.1
  have hcv := hok.2
  unfold coverOK at hcv
  simp only [Bool.and_eq_true] at hcv
  obtain ⟨⟨v1, v2⟩, v3⟩ := hcv
  have hoN' : ops[N]? = some o := by simpa using hoN
  have hNlt : N < ops.size := (Array.getElem?_eq_some_iff.1 hoN').1
  generalize hl' : dullO ops.toList N = l' at he hR v1
  have hat : ∀ j : Nat, l'[j]? = (ops[j]?).map fun q => bif avJ ops.toList N j then q else dull q := fun j => by
    rw [← hl', dullO_at]; simp
  have hsz' : l'.toArray.size = ops.size := by
    rw [← hl']; unfold dullO; simp
  split at he
  · rename_i tm1 h1 nx1 fl1 hi1 ld1 hdo
    obtain ⟨hhist, he⟩ := cond_some he
    split at he
    · rename_i hgd
      split at he
      · rename_i bv bh bnx btm bdf bok hbm
        cases he
        obtain ⟨D, V, T, d0, d1, d2⟩ := drawOps_inv l' 0 _ _ hdo
        simp only [Nat.zero_add] at d1 d2
        have hD : ∀ j q, l'.toArray[j]? = some q → DStep P L rec l'.toArray (masksA l'.toArray.toList []) nt j q (D j) (D (j + 1)) (V j) (T j) := fun j q hq => d2 j q (by simpa using hq)
        have hR' : RegOK l'.toArray (masksA l'.toArray.toList []) := hR
        have hfl0 : (D 0).fl = [] := by rw [d0]
        have hhist0 : (D 0).hist = [] := by rw [d0]
        have hpn : l'.toArray.size = l'.length := by simp
        have d1' : D l'.toArray.size = ⟨tm1, h1, nx1, fl1, hi1, ld1⟩ := by rw [hpn]; exact d1
        have hmono := nx_mono hD hL hrec l'.toArray.size (Nat.zero_le _) (Nat.le_refl _)
        rw [d0, d1'] at hmono
        simp only at hmono
        have heffN : ∀ e, isEff T e → e < l'.toArray.size → e < N := by
          intro e h2 h3
          have := hist_mem hD h2 l'.toArray.size h3 (Nat.le_refl _)
          rw [d1'] at this
          have := List.all_eq_true.1 hhist _ this
          exact blt_lt this
        have b1 : nx1 ≤ bnx := (boomA_sound (nt := nt) hL hbl hoN' hbm hgd (rest := [])).1
        refine ⟨rfl, Nat.le_trans hmono b1, fun F w0 lim E w fr cs hl hS hf => ?_⟩
        have hlim : (D l'.toArray.size).nx ≤ lim := by rw [d1']; exact Nat.le_trans b1 hl
        obtain ⟨fn', tmps', todo', defers', mode', kind', rd'⟩ := fr
        obtain ⟨y1, y2, y3, y4, y5, y6, y7⟩ := hf
        simp only at y1 y2 y3 y4 y5 y6 y7
        simp only [if_true] at y5
        subst y1 y5 y6
        cases rd' with
        | some l => exact y7.elim
        | none =>
        cases y3 with
        | code _ hk =>
          rename_i k'
          have hS : Sit F w0 lim E h nx w := hS
          have hu : UpR false cs := fun hk => by cases hk
          have I0 : ∀ w2 : World, w2.heap = w.heap → w2.os = w.os → w2.tape = w.tape → w2.output = w.output → Inv l'.toArray (masksA l'.toArray.toList []) nt D V T F w0 lim E df false none none (fun _ => False) 0 E w2 h tm tmps' defers' := by
            intro w2 e1 e2 e3 e4
            refine ⟨fun k h => h.elim, Nat.zero_le _, .inl rfl, fun e _ h => h.elim, fun e _ h => by omega, ?_, fun k ob h => h.elim, ?_, fun j hj _ id' a b => ?_, y2, fun k o x h => h.elim, fun x _ => by rw [d0], fun k h => h.elim, .refl _ _ _, y4, trivial⟩
            · rw [d0]; exact fun id' ob h => h
            · refine (hS.world e1 e2 e3 e4).later ?_
              rw [d1']; exact hmono
            · have h0 := nx_mono hD hL hrec j (Nat.zero_le _) (by omega)
              have h2 := nx_mono hD hL hrec l'.toArray.size (show j + 1 ≤ l'.toArray.size by omega) (Nat.le_refl _)
              rw [d0] at h0
              exact hS.fresh id' (Nat.le_trans h0 a) (by omega)
          have hdom : ∀ i, i ≤ l'.toArray.size → ∀ id', (D i).nx ≤ id' → id' < lim → (D i).h.get id' = none := by
            intro i hi
            obtain ⟨c2, E2, w2, hk2, tm2, t2, dd2, I2⟩ := canon (cs := cs) hL hrec hD hR' hfl0 hhist0 hlim hu (I0 w rfl rfl rfl rfl) i hi
            exact dom_of (cs := cs) hL hrec hD hR' hfl0 hhist0 hlim hu hi I2
          obtain ⟨tt, hstep⟩ := st_region_draw (P := P) hm (fn := fn') (t := tmps') (k := k') (d := defers') (kd := .normal) (rd := none) (cs := cs) (w := w) (id := id) (ops := ops)
          have e0 : (fun _ : Nat => False) = fun k => k < l'.toArray.size ∧ (Array.replicate ops.size false).getD k false = true := by
            funext q
            apply propext
            refine ⟨fun h => h.elim, fun h => ?_⟩
            have := h.2
            rw [Array.getD_eq_getD_getElem?, Array.getElem?_replicate] at this
            split at this <;> simp at this
          have I1 := I0 { w with drawn := w.drawn + 1 } rfl rfl rfl rfl
          rw [e0] at I1
          have hleft : (left ops.size (Array.replicate ops.size false)).length = ops.size := by
            unfold left
            rw [List.filter_eq_self.2]
            · simp
            · intro q hq
              rw [Array.getD_eq_getD_getElem?, Array.getElem?_replicate]
              split <;> rfl
          have havN : avJ ops.toList N N = false := by
            have hb : Nat.blt N N = false := by
              cases h : Nat.blt N N with
              | false => rfl
              | true => have := blt_lt h; omega
            unfold avJ
            rw [hb]
            rfl
          have hav : ∀ j, j < N → avJ ops.toList N j = true := fun j hj => by
            unfold avJ
            have : Nat.blt j N = true := Nat.ble_eq_true_of_le hj
            rw [this]; rfl
          have hmem : ∀ (i : Nat) (q : Oper), ops[i]? = some q → (q, i) ∈ ops.toList.zipIdx := fun i q hq => by
            rw [List.mem_zipIdx_iff_getElem?]; simpa using hq
          obtain ⟨listed, rest, c3, E3, w3, hk3, tm3, t3, d3, s3, hall, hnone, I3⟩ := ordersB (cs := cs) (fn := fn') (kk := k') (kd := false) (rd' := none) (opsM := ops) (N := N) (av := avJ ops.toList N) hL hrec hD hR' hfl0 hhist0 hlim hu
            (fun i q hai hq => by
              have := hat i
              rw [hq, hai] at this
              simpa using this)
            (fun q tm => by
              unfold guardOf
              cases q.guard with
              | none => rfl
              | some x =>
                obtain ⟨j, b⟩ := x
                have h2 : l'.toArray[j]? = (ops[j]?).map fun q => bif avJ ops.toList N j then q else dull q := by rw [← hat j]; simp
                simp only [h2]
                cases ops[j]? with
                | none => rfl
                | some oj => simp only [Option.map_some, dull_dst])
            (fun i q hq e hee hb => by
              have h2 : l'.toArray[i]? = some (bif avJ ops.toList N i then q else dull q) := by
                have := hat i
                rw [hq] at this
                simpa using this
              exact hR'.back i _ h2 e (by rw [dull_after]; exact hee) hb)
            hsz'.symm (by rw [hsz']; exact hNlt) hav havN
            (fun j hj q hq => by
              rw [hoN'] at hq; cases hq
              have := List.all_eq_true.1 v1 j (by simpa using hj)
              obtain ⟨e, hee, hx⟩ := List.any_eq_true.1 this
              simp only [Bool.and_eq_true, Bool.or_eq_true] at hx
              refine ⟨e, hee, hx.1.1, blt_lt hx.1.2, ?_⟩
              rcases hx.2 with h | h
              · exact .inl (Nat.eq_of_beq_eq_true h)
              · exact .inr h)
            (fun i q hai hiN hq => by
              have := List.all_eq_true.1 v2 (q, i) (hmem i q hq)
              simp only [Bool.or_eq_true] at this
              rcases this with (h | h) | h
              · rw [hai] at h; cases h
              · exact absurd (Nat.eq_of_beq_eq_true h) hiN
              · obtain ⟨e, hee, hx⟩ := List.any_eq_true.1 h
                simp only [Bool.and_eq_true] at hx
                exact ⟨e, hee, hx.1, by simpa using hx.2⟩)
            hdom ops.size tt (Array.replicate ops.size false) (by simp) hleft (fun j _ => by
              rw [Array.getD_eq_getD_getElem?, Array.getElem?_replicate]
              split <;> rfl) I1
          have hcN : c3 ≤ N := by
            rcases I3.c0 with h | ⟨e, a, b, c⟩
            · omega
            · have := heffN e b c.1; omega
          have hcs : (D c3).h = (D l'.toArray.size).h := (h_same hD l'.toArray.size I3.cle (Nat.le_refl _) (fun q a b x => by
            have h2 := heffN q x b
            have := I3.c1 q x ⟨b, hall q h2⟩; omega)).symm
          have hext := I3.ext
          rw [d0, d1'] at hext
          have hsit := I3.sit
          rw [d1'] at hsit
          have hfin : Sub (setFl h1 (fl1.filter fun x => Nat.blt x.1 N)) hk3 := by
            intro id' ob hid
            rcases setFl_get (fl1.filter fun x => Nat.blt x.1 N) h1 id' with ⟨x, hx, e1, e2⟩ | ⟨e1, e2⟩
            · rw [e2] at hid; cases hid
              rw [List.mem_filter] at hx
              have hx' : x ∈ (D l'.toArray.size).fl := by rw [d1']; exact hx.1
              have hxN : x.1 < N := blt_lt hx.2
              obtain ⟨ob2, a1, a2, a3, a4⟩ := fl_inv hD hfl0 l'.toArray.size (Nat.le_refl _) x hx'
              have := I3.fl x.1 ob2 ⟨a2, hall x.1 hxN⟩ a1 (fun e b1 b2 => by
                have hce := I3.cle
                rcases Nat.lt_or_ge x.1 e with h | h
                · exact a4 e h (by omega) b1
                · cases hq : ((masksA l'.toArray.toList []).getD e 0).testBit x.1 with
                  | false => rfl
                  | true => have := mask_lt hR'.back e x.1 hq; omega)
              rw [a3] at e1 ⊢
              simp only at e1 ⊢
              rw [← e1]; exact this
            · rw [e2] at hid
              refine I3.sub id' ob ?_
              rw [hcs, d1']; exact hid
          have hS3 : Sit F w0 lim E3 (setFl h1 (fl1.filter fun x => Nat.blt x.1 N)) nx1 w3 :=
            ⟨fun i o hg => hsit.hr i o (hfin i o hg), fun i j oi oj b hi hj p q => hsit.inj i j oi oj b (hfin _ _ hi) (hfin _ _ hj) p q, hsit.os, hsit.tape, hsit.output, hsit.keeps,
              fun i o b hg hb => hsit.away i o b (hfin _ _ hg) hb, hsit.fresh, hsit.gr⟩
          have agree : ∀ x, x ∈ o.looksAt ops → tm1.get x = tm3.get x := by
            intro x hx
            by_cases hw : ∃ (j : Nat) (q : Oper), l'.toArray[j]? = some q ∧ q.dst = some x
            · obtain ⟨j, q, hj, hq⟩ := hw
              have hjn : j < l'.toArray.size := (Array.getElem?_eq_some_iff.1 hj).1
              have hjN : j < N := by
                rcases Nat.lt_or_ge j N with h | h
                · exact h
                · exfalso
                  have hjo : ops[j]? = some ops[j] := by simp [show j < ops.size by omega]
                  have h2 := hat j
                  rw [hjo] at h2
                  have h3 : l'[j]? = some q := by simpa using hj
                  rw [h3] at h2
                  simp only [Option.map_some, Option.some.injEq] at h2
                  have h4 : (ops[j]).dst = some x := by rw [← dull_dst (avJ ops.toList N j) ops[j], ← h2]; exact hq
                  have := List.all_eq_true.1 v3 (ops[j], j) (hmem j _ hjo)
                  simp only [Bool.or_eq_true, h4] at this
                  rcases this with h5 | h5
                  · have := blt_lt h5; omega
                  · have := List.all_eq_true.1 h5 x hx
                    rw [beq_rfl] at this; cases this
              rw [I3.tm1 j q x ⟨hjn, hall j hjN⟩ hj hq]
              have h2 := tm_same hD l'.toArray.size (show j + 1 ≤ l'.toArray.size by omega) (Nat.le_refl _) (d := x) (fun k o2 a b z y => by
                have := hR'.uniq k j o2 q x z hj y hq; omega)
              rw [tm_put hD hj hq, d1'] at h2
              exact h2
            · rw [I3.tm0 x (fun j q _ hj hq => hw ⟨j, q, hj, hq⟩)]
              have h2 := tm_same hD l'.toArray.size (Nat.zero_le _) (Nat.le_refl _) (d := x) (fun k o2 _ _ z y => hw ⟨k, o2, z, y⟩)
              rw [d1'] at h2
              exact h2
          have hag : Agree tm1 tm3 o.op.operands.toList := fun t ht => agree t (by
            unfold Oper.looksAt
            refine List.mem_append_left _ ?_
            rw [List.mem_filterMap]
            exact ⟨_, ht, rfl⟩)
          have hg3 : guardOf tm3 ops o.guard = some true := by
            rw [← hgd]
            exact (guardOf_congr fun j b oj x h1 h2 h3 => (agree x (by
              unfold Oper.looksAt
              rw [h1]
              simp [h2, h3])).symm)
          obtain ⟨px', p1, p2, p3, p4, p5⟩ := boomA_congr (P := P) (L := L) hag hbm
          obtain ⟨_, b2'⟩ := boomA_sound (nt := nt) hL hbl hoN' p1 hg3 (rest := rest)
          simp only at p2 p3 p4 p5
          rw [p2, p3, p4, p5] at b2'
          obtain ⟨E4, w4, fr4, v4, z1, z2, z3, z4, z5, z6, z7, _, z9⟩ := b2' F w0 lim E3 w3 fn' t3 k' d3 cs hl hS3 I3.tm I3.dfr
          exact ⟨E4, w4, fr4, v4, hext.trans z1 hmono b1, (Steps.one hstep).trans (Steps.trans s3 z2), z3, z4, z5, z6, z7, (fun hk => (by cases hk)), z9⟩
      · cases he
    · cases he
  · cases he

theorem blowS_sound (hm : P.follows .mixedOrders = true) (hL : LkOK P L) (hrec : Good P rec) {bt : Nat → Nat → Option Nat} : ∀ (n : Nat) (s : S) (px : PX), blowS P L bt rec n s = some px → BlowOK P s px := by
  intro n
  induction n with
  | zero => intro s px h; cases h
  | succ n ih =>
    intro s px h
    obtain ⟨h0, nx, fn, tm, nt, todo, df, md, kd, rd⟩ := s
    cases md with
    | false => cases h
    | true =>
    cases kd with
    | true => cases h
    | false =>
    cases rd with
    | some l => cases h
    | none =>
    have h' : blowI P L bt rec (blowS P L bt rec n) h0 nx fn tm nt todo df = some px := h
    unfold blowI at h'
    split at h'
    · rename_i id ops k
      unfold blowR at h'
      split at h'
      · rename_i tm1 h1 nx1 df1 hops
        obtain ⟨g1, g2⟩ := blowOps_sound hL hrec ih ops.toList 0 (by simp) _ _ hops
        obtain ⟨_, b1, b2⟩ := ih _ _ h'
        refine ⟨rfl, Nat.le_trans g1 b1, fun F w0 lim E w fr cs hl hS hf => ?_⟩
        obtain ⟨fn', tmps', todo', defers', mode', kind', rd'⟩ := fr
        obtain ⟨y1, y2, y3, y4, y5, y6, y7⟩ := hf
        simp only at y1 y2 y3 y4 y5 y6 y7
        simp only [if_true] at y5
        subst y1 y5 y6
        cases rd' with
        | some l => exact y7.elim
        | none =>
        cases y3 with
        | code _ hk =>
          rename_i k'
          obtain ⟨E1, w1, t1, d1, x1, x2, x3, x4, x5⟩ := g2 F w0 lim E w fn' tmps' k' defers' cs (Nat.le_trans b1 hl) hS y2 y4
          rw [List.drop_zero] at x2
          obtain ⟨E2, w2, fr2, v2, z1, z2, z3⟩ := b2 F w0 lim E1 w1 ⟨fn', t1, k', d1, .run, .normal, none⟩ cs hl x3 ⟨rfl, x4, hk.mono x1.1, x5, rfl, rfl, trivial⟩
          exact ⟨E2, w2, fr2, v2, x1.trans z1 g1 b1, (Steps.one st_region).trans (x2.trans ((Steps.one st_region_end).trans z2)), z3⟩
      · rename_i px1 hops
        cases h'
        obtain ⟨g1, g2⟩ := blowOps_sound hL hrec ih ops.toList 0 (by simp) _ _ hops
        refine ⟨rfl, g1, fun F w0 lim E w fr cs hl hS hf => ?_⟩
        obtain ⟨fn', tmps', todo', defers', mode', kind', rd'⟩ := fr
        obtain ⟨y1, y2, y3, y4, y5, y6, y7⟩ := hf
        simp only at y1 y2 y3 y4 y5 y6 y7
        simp only [if_true] at y5
        subst y1 y5 y6
        cases rd' with
        | some l => exact y7.elim
        | none =>
        cases y3 with
        | code _ hk =>
          rename_i k'
          obtain ⟨E1, w1, fr1, v1, x1, x2, x3⟩ := g2 F w0 lim E w fn' tmps' k' defers' cs hl hS y2 y4
          rw [List.drop_zero] at x2
          exact ⟨E1, w1, fr1, v1, x1, (Steps.one st_region).trans x2, x3⟩
      · cases h'
    · rename_i id ops k
      split at h'
      · rename_i N hN
        unfold blowDN at h'
        split at h'
        · rename_i o hoN
          exact blowD_sound hm hL hrec ih hoN h'
        · cases h'
      · split at h'
        · rename_i s1 hs1
          obtain ⟨k1, k2, k3, k4, k5⟩ := drawF_sound (id := id) hm hL hrec hs1
          obtain ⟨b0, b1, b2⟩ := ih _ _ h'
          simp only at k1 k2 k3 k4
          refine ⟨rfl, Nat.le_trans k1 b1, fun F w0 lim E w fr cs hl hS hf => ?_⟩
          obtain ⟨E1, w1, fr1, x1, x2, x3, x4⟩ := k5 F w0 lim E w fr cs (Nat.le_trans b1 hl) hS hf (fun hk => by cases hk)
          obtain ⟨E2, w2, fr2, v2, z1, z2, z3, z4, z5, z6, z7, z8, z9⟩ := b2 F w0 lim E1 w1 fr1 cs hl x3 x4
          exact ⟨E2, w2, fr2, v2, x1.trans z1 k1 b1, x2.trans z2, z3, z4, z5, z6.trans k3, z7, z8, z9⟩
        · cases h'
    · split at h'
      · rename_i s1 hs1
        obtain ⟨g1, _⟩ := stepA_sound hm hL stopT_good _ _ hs1
        obtain ⟨b0, b1, b2⟩ := ih _ _ h'
        obtain ⟨k1, k2, k3, k4, k5⟩ := g1
        simp only at k1 k2 k3 k4
        refine ⟨rfl, Nat.le_trans k1 b1, fun F w0 lim E w fr cs hl hS hf => ?_⟩
        obtain ⟨E1, w1, fr1, x1, x2, x3, x4⟩ := k5 F w0 lim E w fr cs (Nat.le_trans b1 hl) hS hf (fun hk => by cases hk)
        obtain ⟨E2, w2, fr2, v2, z1, z2, z3, z4, z5, z6, z7, z8, z9⟩ := b2 F w0 lim E1 w1 fr1 cs hl x3 x4
        exact ⟨E2, w2, fr2, v2, x1.trans z1 k1 b1, x2.trans z2, z3, z4, z5, z6.trans k3, z7, z8, z9⟩
      · cases h'

def RcOK (P : Program) (g : FuncId) (as : List Value) (v : Value) (h : Tr AO) (nx : Nat) (h' : Tr AO) (nx' : Nat) : Prop :=
  nx ≤ nx' ∧ ∀ (F : Nat → Prop) (w0 : World) (lim : Nat) (E : Env) (w : World) (v' : Value) (as' : Array Value), nx' ≤ lim → Sit F w0 lim E h nx w → VR E v v' → LR E as as'.toList →
    CallsD P g as' (.panicking [{ v := v', recovered := false }]) w fun e u w' => (∃ z, e = .returned z) ∧ u = .panicking [{ v := v', recovered := true }] ∧ ∃ E', Ext E E' nx nx' ∧ Sit F w0 lim E' h' nx' w'

def samePX (px1 : PX) (px : PX) : Bool :=
  eqV px1.v px.v && covT px1.h px.h && Nat.beq px1.nx px.nx && eqTV px1.tm px.tm && px.ok && (match px1.df, px.df with
    | [⟨.fn (.func g) c, a⟩], [⟨.fn (.func g') c', a'⟩] => Nat.beq g g' && veqN.veqL 5 c.toList c'.toList && veqN.veqL 5 a.toList a'.toList
    | _, _ => false)
def outP (px1 : PX) (r : Option PX) : Bool := match r with | some px => samePX px1 px | none => false

theorem XrOK.catch {bt : Nat → Nat → Option Nat} (hm : P.follows .mixedOrders = true) (hL : LkOK P L) (hrec : Good P rec) {f g : FuncId} {args : List Value} {h h' : Tr AO} {nx nx' n : Nat} {v : Value} {s0 : S} {v1 : Value} {h1 : Tr AO} {nx1 : Nat} {tm1 : Tr Value} {cap as : Array Value}
    (he : enterA L h nx f args false = some s0) (hb : outP ⟨v1, h1, nx1, tm1, [⟨.fn (.func g) cap, as⟩], true⟩ (blowS P L bt rec n s0) = true)
    (hc : ∃ fd c, L.fs.get g = some fd ∧ fd.body = some c)
    (hrc : RcOK P g (as.toList ++ cap.toList) v1 h1 nx1 h' nx') (hv : resultA L tm1 h' f = some v) : XrOK P f args h nx v h' nx' := by
  cases hbl : blowS P L bt rec n s0 with
  | none => rw [hbl] at hb; cases hb
  | some px =>
    rw [hbl] at hb
    obtain ⟨v2, h2, nx2, tm2, df2, ok2⟩ := px
    simp only [outP, samePX, Bool.and_eq_true] at hb
    obtain ⟨⟨⟨⟨⟨c1, c2⟩, c3⟩, c4⟩, c6⟩, c5⟩ := hb
    have e1 := eqV_sound c1
    have e2 := covT_sound _ _ c2
    have e3 := Nat.eq_of_beq_eq_true c3
    have e4 := eqTV_sound _ _ c4
    have e5 : df2 = [⟨.fn (.func g) cap, as⟩] := by
      split at c5
      · rename_i g1 c1' a1 g2 c2' a2 heq1
        simp only [Bool.and_eq_true] at c5
        have q1 := Nat.eq_of_beq_eq_true c5.1.1
        have q2 := Array.ext' ((veq_sound 5).2 _ _ c5.1.2)
        have q3 := Array.ext' ((veq_sound 5).2 _ _ c5.2)
        cases heq1
        rw [← q1, ← q2, ← q3]
      · cases c5
    subst e1 e3 e4 e5
    obtain ⟨b0, b1, b2⟩ := blowS_sound hm hL hrec n s0 _ hbl
    obtain ⟨q1, q2, q3, q4, q5, fd, cc, q6, q7, q8⟩ := enterA_frame (P := P) he
    obtain ⟨r1, r2⟩ := hrc
    simp only at b1 b2
    rw [q2] at b1
    have hfs := hL.fs _ _ q6
    refine ⟨Nat.le_trans b1 r1, fun F w0 lim E w args' c cs hl hS ha => ?_⟩
    obtain ⟨E1, w1, fr', v', x1, x2, x3, x4, x5, x6, x7, x8p, x9⟩ := b2 F w0 lim E w (Frame.enter P f args' .normal) (c :: cs) (Nat.le_trans r1 hl) (by rw [q1, q2]; exact hS) (by
      have := q8 E args' ha hfs
      exact this)
    rw [q2] at x1
    obtain ⟨fn', tmps', todo', defers', mode', kind', rd'⟩ := fr'
    obtain ⟨nt', x8⟩ := x8p c6
    simp only at x4 x6 x7 x8 x9
    rw [q3] at x6
    subst x4 x6 x7
    cases x9 with
    | cons hd1 hd2 =>
      rename_i d' l'
      cases hd2
      cases hd1 with
      | fn hfn hc2 ha2 =>
        rename_i f' c' a'
        cases hfn
        obtain ⟨gd, gc, hg1, hg2⟩ := hc
        have hargs : LR E1 (as.toList ++ cap.toList) (a' ++ c').toList := by simpa using ha2.list.append hc2.list
        have st1 : step P (lone ⟨fn', tmps', todo', [⟨.fn (.func g) c', a'⟩], .panicking [{ v := v', recovered := false }], .normal, rd'⟩ (c :: cs) w1) =
            .next (lone (Frame.enter P g (a' ++ c') .deferred) (⟨fn', tmps', todo', [], .panicking [{ v := v', recovered := false }], .normal, rd'⟩ :: c :: cs) w1) :=
          step_defer (fr := ⟨fn', tmps', todo', [⟨.fn (.func g) c', a'⟩], .panicking [{ v := v', recovered := false }], .normal, rd'⟩) (by simp) rfl rfl (by
            simp only [invoke]; exact hL.call _ _ _ hg1 hg2 _ _)
        obtain ⟨e, u', w2, fr2, ⟨⟨z, rfl⟩, rfl, E2, z1, z2⟩, z3, z4, z5⟩ := r2 F w0 lim E1 w1 v' (a' ++ c') hl (x3.less e2) x5 hargs ⟨fn', tmps', todo', [], .panicking [{ v := v', recovered := false }], .normal, rd'⟩ (c :: cs) rfl
        have st2 := step_going_returned (c := ⟨fn', tmps', todo', [], .panicking [{ v := v', recovered := true }], .normal, rd'⟩) (cs := c :: cs) z4 z5
        have hset : settle (.panicking [{ v := v', recovered := true }]) = FrameMode.returning := by simp [settle]
        simp only [hset] at st2
        obtain ⟨v3, y1, y2⟩ := resultA_sound (P := P) hL.ti z2.hr (x8.mono z1.1) q6 hv
        have st3 := st_return (fn := fn') (t := tmps') (todo := todo') (rd := rd') (w := w2) (c := c) (cs := cs) (P := P) hfs y1 false (fun hk => by cases hk)
        refine ⟨E2, w2, v3, x1.trans z1 b1 r1, ?_, z2, y2⟩
        refine Steps.trans x2 ((Steps.one st1).trans (Steps.trans z3 ((Steps.one st2).trans (Steps.one st3))))
end
end Go.Proofs.Ex

namespace Go.Proofs.Ex
open Go.RowKit
variable [Sg]

section
variable {P : Program} {L : Lk} {rec : S → Option S}
section
variable {fn : FuncId} {t : Array Value} {k : List Item} {d : List Deferred} {cs : List Frame} {w : World}
theorem st_op_recover_p {ops : Array Oper} {i : Nat} {rest : List Nat} {o : Oper} (ho : ops[i]? = some o) (hw : Region.wanted o (yielded ops t) = true) {c : Frame} {v : Value} (hc : c.mode = .panicking [{ v := v, recovered := false }]) {w' : World}
    (hr : (execOp (Act.eval ⟨t, []⟩) o).run P w = .ok .recover w') :
    step P (lone ⟨fn, t, .inRegion ops (i :: rest) :: k, d, .run, .deferred, none⟩ (c :: cs) w) =
      .next (lone ⟨fn, putA t o.dst v, .inRegion ops rest :: k, d, .run, .deferred, none⟩ ({ c with mode := .panicking [{ v := v, recovered := true }] } :: cs) w') := by
  rw [← fin_op ho]
  refine step_lone_go ?_
  rw [stepG_op' ho hw (.inl rfl)]
  simp [stepG.apply, hr, tryRecover, hc]
end

theorem RcOK.of (hL : LkOK P L) (hrec : Good P rec) {g : FuncId} {as : List Value} {v v2 : Value} {h h' : Tr AO} {nx nx' : Nat} {fd : Func} {id : Nat} {ops : Array Oper} {rest : Code} {a b ty1 ty2 : Nat} {p1 p2 : String} {e1 e2 : Array Edge} {ts : Array TypeId} {s0 : S} {tm1 tm2 : Tr Value}
    (hfd : L.fs.get g = some fd) (hbody : fd.body = some (.seq (.region id ops false) rest))
    (hops : ops = #[⟨some a, .call ⟨.builtin .recover, #[], ts⟩, ty1, p1, e1, none⟩, ⟨some b, .assign (.tmp a), ty2, p2, e2, none⟩])
    (he : enterA L h nx g as true = some s0) (ht1 : putT s0.tm s0.nt (some a) v = some tm1) (ht2 : putT tm1 s0.nt (some b) v = some tm2)
    (hrun : outB v2 h' nx' (backA L (rec ⟨h, nx, g, tm2, s0.nt, [.code rest], [], true, true, none⟩)) = true) : RcOK P g as v h nx h' nx' := by
  cases hr : rec ⟨h, nx, g, tm2, s0.nt, [.code rest], [], true, true, none⟩ with
  | none => rw [hr] at hrun; cases hrun
  | some s2 =>
    rw [hr] at hrun
    obtain ⟨q1, q2, q3, q4, q5, fd', cc, q6, q7, q8⟩ := enterA_frame (P := P) he
    rw [hfd] at q6; cases q6
    rw [hbody] at q7; cases q7
    obtain ⟨⟨g1, g2, g2a, g2b, g3⟩, k2⟩ := hrec _ _ hr
    obtain ⟨h1, n1, f1, tmE, nt1, todo1, df1, md1, kd1, rd1⟩ := s2
    simp only at g1 g2 g2a g2b
    subst g2 g2a g2b
    cases md1 with
    | true => simp only [backA] at hrun; cases hrun
    | false =>
      simp only [backA] at hrun
      cases hv : resultA L tmE h1 f1 with
      | none => rw [hv] at hrun; cases hrun
      | some v1 =>
        rw [hv] at hrun
        simp only [outB, Bool.and_eq_true] at hrun
        have e1' := Nat.eq_of_beq_eq_true hrun.1.1
        have e3' := covT_sound _ _ hrun.2
        subst e1'
        refine ⟨g1, fun F w0 lim E w v' as' hl hS hv' ha => ?_⟩
        intro c cs hc
        have hfs := hL.fs _ _ hfd
        have hfr := q8 E as' ha hfs
        have hent : Frame.enter P f1 as' .deferred = ⟨f1, as' ++ Array.replicate (fd.ntmps - as'.size) undef, [.code (.seq (.region id ops false) rest)], [], .run, .deferred, none⟩ := by
          simp [Frame.enter, hfs, hbody]
        have htm : TmR E s0.tm s0.nt (as' ++ Array.replicate (fd.ntmps - as'.size) undef) := by
          have := hfr.tm
          have hk : kindOf true = CallKind.deferred := rfl
          rw [hk, hent] at this
          exact this
        have t1 := htm.put hv' ht1
        have t2 := t1.put hv' ht2
        have o0 : ops[0]? = some ⟨some a, .call ⟨.builtin .recover, #[], ts⟩, ty1, p1, e1, none⟩ := by rw [hops]; rfl
        have o1 : ops[1]? = some ⟨some b, .assign (.tmp a), ty2, p2, e2, none⟩ := by rw [hops]; rfl
        have hsz : List.range ops.size = [0, 1] := by rw [hops]; rfl
        have hr0 : ∀ ρ : Operand → Value, (execOp ρ ⟨some a, .call ⟨.builtin .recover, #[], ts⟩, ty1, p1, e1, none⟩).run P w = .ok .recover w := fun ρ => rfl
        rw [hent]
        have S1 := Steps.one (st_seq (P := P) (fn := f1) (t := as' ++ Array.replicate (fd.ntmps - as'.size) undef) (k := []) (d := []) (kd := .deferred) (rd := none) (cs := c :: cs) (w := w) (a := .region id ops false) (b := rest))
        have S2 := Steps.one (st_region (P := P) (fn := f1) (t := as' ++ Array.replicate (fd.ntmps - as'.size) undef) (k := [.code rest]) (d := []) (kd := .deferred) (rd := none) (cs := c :: cs) (w := w) (id := id) (ops := ops))
        rw [hsz] at S2
        have S3 := Steps.one (st_op_recover_p (P := P) (fn := f1) (t := as' ++ Array.replicate (fd.ntmps - as'.size) undef) (k := [.code rest]) (d := []) (cs := cs) (w := w) (rest := [1]) o0 rfl hc (hr0 _))
        have hev : ev tm1 (.tmp a) = some v := by
          have ht1' := ht1
          unfold putT at ht1'
          simp only at ht1'
          cases hb : Nat.blt a s0.nt with
          | false => rw [hb] at ht1'; cases ht1'
          | true =>
            rw [hb] at ht1'
            cases ht1'
            simp only [Ex.ev, Tr.get_set, if_true]
        have hval : Act.eval ⟨putA (as' ++ Array.replicate (fd.ntmps - as'.size) undef) (some a) v', []⟩ (.tmp a) = v' := by
          show ((as' ++ Array.replicate (fd.ntmps - as'.size) undef).setIfInBounds a v').getD a undef = v'
          have ht1' := ht1
          unfold putT at ht1'
          simp only at ht1'
          cases hb : Nat.blt a s0.nt with
          | false => rw [hb] at ht1'; cases ht1'
          | true =>
            have hlt : a < s0.nt := Nat.le_of_ble_eq_true hb
            have hsz2 := htm.1
            simp [Array.getD_eq_getD_getElem?, Array.getElem?_setIfInBounds, hsz2, hlt]
        have S4 := Steps.one (st_op_value (P := P) (fn := f1) (t := putA (as' ++ Array.replicate (fd.ntmps - as'.size) undef) (some a) v') (k := [.code rest]) (d := []) (kd := .deferred) (rd := none) (cs := { c with mode := .panicking [{ v := v', recovered := true }] } :: cs) (w := w) (rest := []) (v := v') (res := .value v') (w' := w) o1 rfl (.inl rfl) (by
          unfold execOp
          simp only [hval]
          rfl) (.inl rfl))
        have S5 := Steps.one (st_region_end (P := P) (fn := f1) (t := putA (putA (as' ++ Array.replicate (fd.ntmps - as'.size) undef) (some a) v') (some b) v') (k := [.code rest]) (d := []) (kd := .deferred) (rd := none) (cs := { c with mode := .panicking [{ v := v', recovered := true }] } :: cs) (w := w) (ops := ops))
        obtain ⟨E', w', fr', x1, x2, x3, x4⟩ := g3 F w0 lim E w ⟨f1, putA (putA (as' ++ Array.replicate (fd.ntmps - as'.size) undef) (some a) v') (some b) v', [.code rest], [], .run, .deferred, none⟩ ({ c with mode := .panicking [{ v := v', recovered := true }] } :: cs) hl hS
          ⟨rfl, t2, .code _ .nil, .nil, rfl, rfl, trivial⟩ (fun _ => ⟨_, _, rfl, .inr ⟨v', rfl⟩⟩)
        obtain ⟨fn', tmps', todo', defers', mode', kind', rd'⟩ := fr'
        obtain ⟨y1, y2, y3, y4, y5, y6, y7⟩ := x4
        simp only at y1 y2 y3 y4 y5 y6 y7
        have hdf : df1 = [] := by
          rcases k2 with hov | ⟨hov, _⟩
          · unfold overA at hov
            cases df1 with
            | nil => rfl
            | cons x l => simp at hov
          · cases hov
        subst hdf
        cases y4
        simp only [Bool.false_eq_true, if_false] at y5
        subst y1 y5 y6
        obtain ⟨z, z1, z2⟩ := resultA_sound (P := P) hL.ti x3.hr y2 hfd hv
        refine ⟨.returned z, _, w', ⟨fn', tmps', todo', [], .returning, .deferred, rd'⟩, ⟨⟨z, rfl⟩, rfl, E', x1, x3.less e3'⟩, ?_, rfl, rfl, rfl, fd, hfs, z1⟩
        exact Steps.trans S1 (Steps.trans S2 (Steps.trans S3 (Steps.trans S4 (Steps.trans S5 x2))))
end
end Go.Proofs.Ex

namespace Go.Proofs.Ex
variable [Sg]
open Go.RowKit

section
variable {P : Program} {L : Lk}
theorem XrOK.frame {f : FuncId} {args : List Value} {hs h1 h h' : Tr AO} {nx nx' : Nat} {v : Value} (hx : XrOK P f args hs nx v h1 nx') (hsub : Sub hs h)
    (hh : ∀ id o, h'.get id = some o → h1.get id = some o ∨ (h.get id = some o ∧ hs.get id = none)) : XrOK P f args h nx v h' nx' :=
  ⟨hx.1, fun F w0 lim E w args' c cs hl hS ha => by
    have hS' := hS.sub hsub (a := nx) (b := lim) (fun id h1 h2 => hS.fresh id h1 h2)
    obtain ⟨E', w', v', x1, x2, x3, x4⟩ := hx.2 _ _ lim E w args' c cs hl hS' ha
    exact ⟨E', w', v', x1, x2, hS.rejoin (a := nx) (b := lim) x1.1 x3 hh (fun id a b => x3.fresh id a b), x4⟩⟩

def Tr.lf {α : Type} : Tr α → Tr α
  | .nil => .nil
  | .node l _ _ => l
def Tr.rt {α : Type} : Tr α → Tr α
  | .nil => .nil
  | .node _ _ r => r
def Tr.vl {α : Type} : Tr α → Option α
  | .nil => none
  | .node _ v _ => v
theorem Tr.get_parts {α : Type} (t : Tr α) (n : Nat) : t.get n = if n = 0 then t.vl else if n % 2 = 1 then t.lf.get ((n - 1) / 2) else t.rt.get ((n - 1) / 2) := by
  cases t with
  | nil => simp only [Tr.get_nil, Tr.vl, Tr.lf, Tr.rt]; split <;> (try split) <;> rfl
  | node l v r => exact Tr.get_node l v r n
def overF : Nat → Tr AO → Tr AO → Tr AO → Tr AO
  | 0, _, _, _ => .nil
  | n + 1, h0, h1, h => match h0, h1 with
    | .nil, .nil => h
    | h0, h1 => .node (overF n h0.lf h1.lf h.lf) (match h1.vl with | some o => some o | none => match h0.vl with | some _ => none | none => h.vl) (overF n h0.rt h1.rt h.rt)
theorem overF_get : ∀ (n : Nat) (h0 h1 h : Tr AO) (id : Nat) (o : AO), (overF n h0 h1 h).get id = some o → h1.get id = some o ∨ (h.get id = some o ∧ h0.get id = none)
  | 0, _, _, _, id, o, e => by simp only [overF, Tr.get_nil] at e; cases e
  | n + 1, h0, h1, h, id, o, e => by
    have gen : ∀ (a b : Tr AO), (Tr.node (overF n a.lf b.lf h.lf) (match b.vl with | some o => some o | none => match a.vl with | some _ => none | none => h.vl) (overF n a.rt b.rt h.rt)).get id = some o →
        b.get id = some o ∨ (h.get id = some o ∧ a.get id = none) := by
      intro a b e
      rw [Tr.get_node] at e
      rw [Tr.get_parts b, Tr.get_parts h, Tr.get_parts a]
      by_cases h0' : id = 0
      · simp only [if_pos h0'] at e ⊢
        cases hb : b.vl with
        | some o1 => rw [hb] at e; exact .inl e
        | none =>
          rw [hb] at e
          cases ha : a.vl with
          | some o2 => rw [ha] at e; cases e
          | none => rw [ha] at e; exact .inr ⟨e, rfl⟩
      · simp only [if_neg h0'] at e ⊢
        by_cases h2 : id % 2 = 1
        · simp only [if_pos h2] at e ⊢
          exact overF_get n _ _ _ _ _ e
        · simp only [if_neg h2] at e ⊢
          exact overF_get n _ _ _ _ _ e
    cases h0 with
    | nil =>
      cases h1 with
      | nil => exact .inr ⟨e, rfl⟩
      | node l v r => exact gen _ _ e
    | node l v r => exact gen _ _ e

noncomputable def entF (f0 : FuncId) (args0 : List Value) (h0 : Tr AO) (nx0 : Nat) (v : Value) (h1 : Tr AO) (nx' : Nat) (rest : Nat → List Value → Tr AO → Nat → Option (Value × Tr AO × Nat)) (f : FuncId) (args : List Value) (h : Tr AO) (nx : Nat) : Option (Value × Tr AO × Nat) :=
  cond (Nat.beq f f0) (cond (Nat.beq nx nx0 && veqN.veqL 5 args0 args && covT h0 h) (some (v, overF 64 h0 h1 h, nx')) (rest f args h nx)) (rest f args h nx)

theorem entF_ok {f0 : FuncId} {args0 : List Value} {h0 : Tr AO} {nx0 : Nat} {v0 : Value} {h1 : Tr AO} {nx1 : Nat} {rest : Nat → List Value → Tr AO → Nat → Option (Value × Tr AO × Nat)}
    (hx : XrOK P f0 args0 h0 nx0 v0 h1 nx1) (hr : ∀ f args h nx v h' nx', rest f args h nx = some (v, h', nx') → XrOK P f args h nx v h' nx') :
    ∀ f args h nx v h' nx', entF f0 args0 h0 nx0 v0 h1 nx1 rest f args h nx = some (v, h', nx') → XrOK P f args h nx v h' nx' := by
  intro f args h nx v h' nx' he
  unfold entF at he
  cases hf : Nat.beq f f0 with
  | false => rw [hf] at he; exact hr _ _ _ _ _ _ _ he
  | true =>
    rw [hf] at he
    simp only [cond_true] at he
    cases hc : Nat.beq nx nx0 && veqN.veqL 5 args0 args && covT h0 h with
    | false => rw [hc] at he; exact hr _ _ _ _ _ _ _ he
    | true =>
      rw [hc] at he
      simp only [cond_true, Option.some.injEq, Prod.mk.injEq] at he
      simp only [Bool.and_eq_true] at hc
      have e1 := Nat.eq_of_beq_eq_true hf
      have e2 := Nat.eq_of_beq_eq_true hc.1.1
      have e3 := (veq_sound 5).2 _ _ hc.1.2
      have e4 := covT_sound _ _ hc.2
      obtain ⟨a, b, c⟩ := he
      subst e1 e2 e3 a b c
      exact hx.frame e4 (overF_get 64 _ _ _)
end
end Go.Proofs.Ex

namespace Go.Proofs.Ex
variable [Sg]
open Go.RowKit

section
variable {P : Program} {L : Lk} {F : Nat → Prop} {w0 : World} {lim : Nat} {E : Env} {h : Tr AO} {nx : Nat} {w : World}
theorem Sit.learn (hS : Sit F w0 lim E h nx w) {w1 : World} (hb : Below w.heap.size w w1) {E1 : Env} {nx1 : Nat} (he : E.le E1) (hnx : nx < nx1) {g : Nat} (hge : w.heap.size ≤ g) (hρ : ∀ i, E1.ρ i = if i = nx then some g else E.ρ i)
    (hκ : ∀ i, nx1 ≤ i → E1.κ i = E.κ i) (hlim : nx < lim) {o : AO} {o' : Obj} (ho : ObjR E1 o o') (hw : w1.heap[g]? = some o') :
    Sit F w0 lim E1 (h.set nx o) nx1 w1 := by
  have hS1 := hS.of_below hb
  have hlt : ∀ id oo b, h.get id = some oo → E.ρ id = some b → b < w.heap.size := by
    intro id oo b hg hb
    obtain ⟨b', o'', h1, h2, _⟩ := hS.hr id oo hg
    rw [hb] at h1; cases h1
    exact (Array.getElem?_eq_some_iff.1 h2).1
  refine ⟨fun id oo hg => ?_, fun i j oi oj b hi hj h1 h2 => ?_, hS1.os, hS1.tape, hS1.output, hS1.keeps, fun id oo b hg hb => ?_, fun id h1 h2 => ?_, hS1.gr⟩
  · rw [Tr.get_set] at hg
    by_cases hid : id = nx
    · subst hid
      rw [if_pos rfl] at hg; cases hg
      exact ⟨g, o', by rw [hρ, if_pos rfl], hw, ho⟩
    · rw [if_neg hid] at hg
      obtain ⟨b, o'', h1, h2, h3⟩ := hS1.hr id oo hg
      exact ⟨b, o'', by rw [hρ, if_neg hid]; exact h1, h2, h3.mono he⟩
  · rw [Tr.get_set] at hi hj
    rw [hρ] at h1 h2
    by_cases hin : i = nx
    · by_cases hjn : j = nx
      · exact hin.trans hjn.symm
      · rw [if_pos hin] at h1; rw [if_neg hjn] at h2 hj; cases h1
        exact absurd (hlt j oj _ hj h2) (by omega)
    · by_cases hjn : j = nx
      · rw [if_pos hjn] at h2; rw [if_neg hin] at h1 hi; cases h2
        exact absurd (hlt i oi _ hi h1) (by omega)
      · rw [if_neg hin] at h1 hi; rw [if_neg hjn] at h2 hj
        exact hS.inj i j oi oj b hi hj h1 h2
  · rw [Tr.get_set] at hg
    rw [hρ] at hb
    by_cases hid : id = nx
    · rw [if_pos hid] at hb; cases hb
      intro hF
      exact absurd (hS.keeps _ hF).1 (by omega)
    · rw [if_neg hid] at hg hb
      exact hS.away id oo b hg hb
  · obtain ⟨p, q⟩ := hS.fresh id (by omega) h2
    exact ⟨by rw [hρ, if_neg (by omega)]; exact p, by rw [hκ id h1]; exact q⟩

theorem XrOK.ofCalls {f : FuncId} {args : List Value} {h h' : Tr AO} {nx nx' : Nat} {v : Value} (hle : nx ≤ nx')
    (H : ∀ (F : Nat → Prop) (w0 : World) (lim : Nat) (E : Env) (w : World) (args' : Array Value), nx' ≤ lim → Sit F w0 lim E h nx w → LR E args args'.toList → Sg.G F w →
      Calls P f args' w fun e w' => ∃ v' E', e = .returned v' ∧ VR E' v v' ∧ Ext E E' nx nx' ∧ Sit F w0 lim E' h' nx' w') : XrOK P f args h nx v h' nx' :=
  ⟨hle, fun F w0 lim E w args' c cs hl hS ha => by
    obtain ⟨e, w', fr, ⟨v', E', rfl, hv, hx, hS'⟩, hcomes, hfn, hleave⟩ := H F w0 lim E w args' hl hS ha (Sg.mono hS.gr (fun _ h => h) (fun k hk => (hS.keeps k hk).2)) (c :: cs)
    have h1 : Steps P (lone (Frame.enter P f args' .normal) (c :: cs) w) (lone fr (c :: cs) w') := hcomes
    exact ⟨E', w', v', hx, h1.trans (Steps.one (step_leave_returned hleave)), hS', hv⟩⟩

theorem XrOK.closed {f : FuncId} {args : List Value} {h : Tr AO} {nx : Nat} {v : Value} (hv : Go.Proofs.Ex.closed v = true)
    (H : ∀ (F : Nat → Prop) (E : Env) (w : World) (args' : Array Value), HR E h w → LR E args args'.toList → Sg.G F w → Calls P f args' w fun e w' => e = .returned v ∧ Below w.heap.size w w') : XrOK P f args h nx v h nx :=
  .ofCalls (Nat.le_refl _) fun F w0 lim E w args' _ hS ha hg => (H F E w args' hS.hr ha hg).mono fun e w' ⟨h1, h2⟩ => ⟨v, E, h1, VR.closed hv, .refl _ _ _, hS.of_below h2⟩
end
end Go.Proofs.Ex

namespace Go.Proofs.Ex
open Go.RowKit
variable [Sg]

def binNo : BinOp → Nat
  | .add => 0 | .sub => 1 | .mul => 2 | .quo => 3 | .rem => 4 | .and => 5 | .or => 6 | .xor => 7 | .andNot => 8
  | .shl => 9 | .shr => 10 | .eql => 11 | .neq => 12 | .lss => 13 | .leq => 14 | .gtr => 15 | .geq => 16
def unNo : UnOp → Nat
  | .neg => 0 | .xor => 1 | .not => 2 | .plus => 3

def aI (i : Nat) : Value := .complex .f64 i 0
def Is (v v' : Value) : Prop := (∀ E, VR E v v') ∧ ∀ E u, VR E v u → u = v'
theorem Is.atom {i : Nat} {v' : Value} (h : Sg.σ i = some v') (hs : scalarV v' = true) : Is (aI i) v' :=
  ⟨fun _ => .atom h hs, fun E u hu => by
    unfold aI at hu
    cases hu with
    | atom h2 _ => rw [h] at h2; exact (Option.some.inj h2).symm⟩
theorem Is.closed {v : Value} (h : closed v = true) : Is v v := ⟨fun _ => VR.closed h, fun _ _ hu => hu.eq h⟩
theorem Is.int (k : IntKind) (n : Int) : Is (.int k n) (.int k n) := Is.closed rfl
def LIs (l l' : List Value) : Prop := (∀ E, LR E l l') ∧ ∀ E u, LR E l u → u = l'
theorem LIs.nil : LIs [] [] := ⟨fun E => LR.nil E, fun _ _ h => h.nil_right⟩
theorem LIs.cons {v v' : Value} {l l' : List Value} (h : Is v v') (t : LIs l l') : LIs (v :: l) (v' :: l') :=
  ⟨fun E => LR.cons (h.1 E) (t.1 E), fun E u hu => by
    obtain ⟨x, y, rfl, hx, hy⟩ := hu.cases
    rw [h.2 E _ hx, t.2 E _ hy]⟩

def EB (P : Program) (e : Nat × Nat × Value × Value × Value) : Prop := ∃ a' b' v', Is e.2.2.1 a' ∧ Is e.2.2.2.1 b' ∧ (∀ E, VR E e.2.2.2.2 v') ∧
  ∀ op, binNo op = e.1 → ∀ x y w, (do eqGuard op e.2.1 x y a' b'; binOp op e.2.1 a' b').run P w = .ok v' w
def EC (P : Program) (e : Nat × Nat × Value × Value) : Prop := ∃ a' v', Is e.2.2.1 a' ∧ (∀ E, VR E e.2.2.2 v') ∧ ∀ w, (convert e.1 e.2.1 a').run P w = .ok v' w
def EU (P : Program) (e : Nat × Value × Value) : Prop := ∃ a' v', Is e.2.1 a' ∧ (∀ E, VR E e.2.2 v') ∧ ∀ op, unNo op = e.1 → ∀ w, (Op.unary op a').run P w = .ok v' w
def EX (P : Program) (e : Nat × List Value × Value) : Prop := ∃ l' v', LIs e.2.1 l' ∧ (∀ E, VR E e.2.2 v') ∧ ∀ w, (callFunc e.1 l'.toArray).run P w = .ok (.value v') w
def EO (P : Program) (e : Nat × List Value × Value) : Prop := ∃ l' v', LIs e.2.1 l' ∧ (∀ E, VR E e.2.2 v') ∧ ∀ w, Calls P e.1 l'.toArray w fun e w' => e = .returned v' ∧ Below w.heap.size w w'
def EM (P : Program) (e : Nat × List Value × Value) : Prop := ∃ l' v', LIs e.2.1 l' ∧ (∀ E, VR E e.2.2 v') ∧ ∀ mx, cond mx 1 0 = e.1 → ∀ (ts : List TypeId) w, (cond mx (Builtin.max_ ts.toArray 0 l'.toArray) (Builtin.min_ ts.toArray 0 l'.toArray)).run P w = .ok v' w

structure Tabs where
  B : List (Nat × Nat × Value × Value × Value)
  C : List (Nat × Nat × Value × Value)
  U : List (Nat × Value × Value)
  X : List (Nat × List Value × Value)
  O : List (Nat × List Value × Value)
  M : List (Nat × List Value × Value)

structure TabsOK (P : Program) (T : Tabs) : Prop where
  B : ∀ e ∈ T.B, EB P e
  C : ∀ e ∈ T.C, EC P e
  U : ∀ e ∈ T.U, EU P e
  X : ∀ e ∈ T.X, EX P e
  O : ∀ e ∈ T.O, EO P e
  M : ∀ e ∈ T.M, EM P e

end Go.Proofs.Ex

namespace Go.Proofs.Ex
open Go.RowKit
variable [Sg]

def All {α : Type} (p : α → Prop) : List α → Prop
  | [] => True
  | x :: l => p x ∧ All p l
theorem All.mem {α : Type} {p : α → Prop} : ∀ {l : List α}, All p l → ∀ x ∈ l, p x := by
  intro l
  induction l with
  | nil => intro _ x h; cases h
  | cons y l ih =>
    intro h x hx
    cases hx with
    | head => exact h.1
    | tail _ hx => exact ih h.2 x hx

variable {P : Program}
theorem EC.int {s d : Nat} {a v : Value} {ds : TypeDesc} {k k' : IntKind} {n : Int} (hs : P.underlying s = some ds) (hd : P.underlying d = some (.int k')) (ha : Is a (.int k n)) (hv : Is v (.int k' (k'.wrap n))) : EC P (s, d, a, v) := by
  refine ⟨_, _, ha, hv.1, fun w => ?_⟩
  simp only [convert, Sem.run_bind, run_underlying hs, run_underlying hd, Result.andThen_ok]
  cases ds <;> rfl
theorem EU.neg {a v : Value} {k : IntKind} {n : Int} (ha : Is a (.int k n)) (hv : Is v (.int k (k.wrap (0 - n)))) : EU P (0, a, v) := by
  refine ⟨_, _, ha, hv.1, fun op he w => ?_⟩
  cases op <;> first
    | (cases he; done)
    | rfl
end Go.Proofs.Ex

namespace Go.Proofs.Ex
open Go.RowKit

theorem wrap_i64 {n : Int} (h1 : -9223372036854775808 ≤ n) (h2 : n < 9223372036854775808) : IntKind.i64.wrap n = n := by
  simp only [IntKind.wrap, IntKind.bits, IntKind.signed, if_true]
  first
    | omega
    | (simp; omega)
end Go.Proofs.Ex

namespace Go.Proofs.Ex
open Go.RowKit
variable [Sg]

theorem All.nil {α : Type} {p : α → Prop} : All p [] := trivial
theorem All.cons {α : Type} {p : α → Prop} {x : α} {l : List α} (h : p x) (t : All p l) : All p (x :: l) := ⟨h, t⟩

noncomputable def runA (P : Program) (L : Lk) (f : FuncId) (args : List Value) (n : Nat) : Option (Value × Tr AO × Nat) :=
  match enterA L .nil 0 f args false with
  | some s => backA L (arun P L n s)
  | none => none

end Go.Proofs.Ex

namespace Go.Proofs.Ex
open Go.RowKit
variable [Sg]

variable {P : Program}
theorem EM.max {a b v : Value} {k : IntKind} {x y : Int} (ha : Is a (.int k x)) (hb : Is b (.int k y)) (hv : Is v (.int k (if y > x then y else x))) : EM P (1, [a, b], v) := by
  refine ⟨_, _, .cons ha (.cons hb .nil), hv.1, fun mx he ts w => ?_⟩
  cases mx with
  | false => cases he
  | true => rfl
theorem EO.of {f : Nat} {l l' : List Value} {v v' : Value} (hl : LIs l l') (hv : Is v v') (h : ∀ w, Calls P f l'.toArray w fun e w' => e = .returned v' ∧ Below w.heap.size w w') : EO P (f, l, v) := ⟨_, _, hl, hv.1, h⟩
theorem EX.of {f : Nat} {l l' : List Value} {v v' : Value} (hl : LIs l l') (hv : Is v v') (h : ∀ w, (callFunc f l'.toArray).run P w = .ok (.value v') w) : EX P (f, l, v) := ⟨_, _, hl, hv.1, h⟩
end Go.Proofs.Ex

namespace Go.Proofs.Ex
open Go.RowKit
variable [Sg]

theorem runCalls {P : Program} {L : Lk} (hm : P.follows .mixedOrders = true) (hL : LkOK P L) {f : FuncId} {args args' : List Value} {v v' : Value} {nx n : Nat}
    (hrun : outB v .nil nx (runA P L f args n) = true) (ha : LIs args args') (hv : Is v v') (w : World) (hg : Sg.G (fun k => k < w.heap.size) w) :
    Calls P f args'.toArray w fun e w' => e = .returned v' ∧ Below w.heap.size w w' := by
  unfold runA at hrun
  split at hrun
  · rename_i s hs
    refine (Calls.ofA hL (arun_good hm hL n) hs (Sound.refl P s) hrun (Nat.le_refl _) (noSit w nx hg) (args' := args'.toArray) (by simpa using ha.1 noE)).mono ?_
    rintro e w' ⟨E', u, rfl, hu, _, hS⟩
    exact ⟨by rw [hv.2 E' u hu], hS.below⟩
  · cases hrun

def regC (c : Code) : Array Oper := match c with | .region _ ops _ => ops | _ => #[]

end Go.Proofs.Ex
