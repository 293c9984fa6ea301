/- Frames, and the steps of the machine. No program is imported. Calls, rounds and regions. No program is imported. Numbers of blocks only grow. No program is imported. Regions whose order is given. No program is imported. For regions that draw their order: values that agree, what an operation looks at -/
import Derived.Test.YtbiedfkmmcaplaaGreatDoorEb
import Derived.RangeFuncRecord
set_option linter.all false
namespace Go.Proofs.Ex
variable [Sg]
open Go.RowKit

inductive ItR (E : Env) : List Item → List Item → Prop
  | nil : ItR E [] []
  | code (c : Code) {k k' : List Item} : ItR E k k' → ItR E (.code c :: k) (.code c :: k')
  | inBlock (id : Nat) {k k' : List Item} : ItR E k k' → ItR E (.inBlock id :: k) (.inBlock id :: k')
  | inLoop (c : Code) {k k' : List Item} : ItR E k k' → ItR E (.inLoop c :: k) (.inLoop c :: k')
  | inScope (c : Code) {k k' : List Item} : ItR E k k' → ItR E (.inScope c :: k) (.inScope c :: k')
  | beginRound {k k' : List Item} : ItR E k k' → ItR E (.beginRound :: k) (.beginRound :: k')
  | endRange {l l' : Nat} {k k' : List Item} : E.ρ l = some l' → ItR E k k' → ItR E (.endRangeFunc l :: k) (.endRangeFunc l' :: k')

theorem ItR.mono {E E' : Env} (h : E.le E') {k k' : List Item} (x : ItR E k k') : ItR E' k k' := by
  induction x with
  | nil => exact .nil
  | code c _ ih => exact .code c ih
  | inBlock i _ ih => exact .inBlock i ih
  | inLoop c _ ih => exact .inLoop c ih
  | inScope c _ ih => exact .inScope c ih
  | beginRound _ ih => exact .beginRound ih
  | endRange e _ ih => exact .endRange (h.1 _ _ e) ih

theorem exitTo_rel {E : Env} {k k' : List Item} (x : ItR E k k') (id : Nat) : (∀ j, exitTo id k = some j → ∃ j', exitTo id k' = some j' ∧ ItR E j j') ∧ (exitTo id k = none → exitTo id k' = none) := by
  induction x with
  | nil => exact ⟨fun j h => (by cases h), fun _ => rfl⟩
  | code c _ ih => exact ih
  | inLoop c _ ih => exact ih
  | inScope c _ ih => exact ih
  | beginRound _ ih => exact ih
  | endRange e _ ih => exact ih
  | inBlock i h ih =>
    rename_i k k'
    simp only [exitTo]
    split
    · exact ⟨fun j hj => by cases hj; exact ⟨_, rfl, h⟩, fun hj => by cases hj⟩
    · exact ih

theorem gotoIn_rel {E : Env} {k k' : List Item} (x : ItR E k k') (l : Nat) : (∀ j, gotoIn l k = some j → ∃ j', gotoIn l k' = some j' ∧ ItR E j j') ∧ (gotoIn l k = none → gotoIn l k' = none) := by
  induction x with
  | nil => exact ⟨fun j h => (by cases h), fun _ => rfl⟩
  | code c _ ih => exact ih
  | inLoop c _ ih => exact ih
  | inBlock c _ ih => exact ih
  | beginRound _ ih => exact ih
  | endRange e _ ih => exact ih
  | inScope b h ih =>
    rename_i k k'
    simp only [gotoIn]
    cases hf : findLabel b l with
    | none => simpa [hf] using ih
    | some c =>
      simp only
      exact ⟨fun j hj => by cases hj; exact ⟨_, rfl, .code c (.inScope b h)⟩, fun hj => by cases hj⟩

def RdR (E : Env) : Option Nat → Option Nat → Prop
  | none, none => True
  | some l, some l' => E.ρ l = some l'
  | _, _ => False
theorem RdR.mono {E E' : Env} (h : E.le E') {a b : Option Nat} (x : RdR E a b) : RdR E' a b := by
  cases a <;> cases b <;> first | trivial | exact h.1 _ _ x | exact x.elim

def kindOf (kd : Bool) : CallKind := if kd then .deferred else .normal
def Below1 (c : Frame) : Prop := c.mode = .returning ∨ ∃ v, c.mode = .panicking [{ v := v, recovered := true }]
def UpR (kd : Bool) (cs : List Frame) : Prop := kd = true → ∃ c rest, cs = c :: rest ∧ Below1 c

structure FrR (E : Env) (s : S) (fr : Frame) : Prop where
  fn : fr.fn = s.fn
  tm : TmR E s.tm s.nt fr.tmps
  todo : ItR E s.todo fr.todo
  df : DefsR E s.df fr.defers
  md : fr.mode = if s.md then .run else .returning
  kd : fr.kind = kindOf s.kd
  rd : RdR E s.rd fr.roundOf

def Sound (P : Program) (s s' : S) : Prop :=
  s.nx ≤ s'.nx ∧ s'.kd = s.kd ∧ s'.fn = s.fn ∧ s'.rd = s.rd ∧ ∀ (F : Nat → Prop) (w0 : World) (lim : Nat) (E : Env) (w : World) (fr : Frame) (cs : List Frame), s'.nx ≤ lim → Sit F w0 lim E s.h s.nx w → FrR E s fr → UpR s.kd cs →
    ∃ E' w' fr', Ext E E' s.nx s'.nx ∧ Steps P (lone fr cs w) (lone fr' cs w') ∧ Sit F w0 lim E' s'.h s'.nx w' ∧ FrR E' s' fr'

theorem Sound.refl (P : Program) (s : S) : Sound P s s := ⟨Nat.le_refl _, rfl, rfl, rfl, fun _ _ _ E w fr _ _ hS hf _ => ⟨E, w, fr, .refl _ _ _, Steps.refl _ _, hS, hf⟩⟩
theorem Sound.trans {P : Program} {a b c : S} (h : Sound P a b) (k : Sound P b c) : Sound P a c := by
  obtain ⟨h1, h2, h2a, h2b, h3⟩ := h
  obtain ⟨k1, k2, k2a, k2b, k3⟩ := k
  refine ⟨Nat.le_trans h1 k1, k2.trans h2, k2a.trans h2a, k2b.trans h2b, fun F w0 lim E w fr cs hl hS hf hu => ?_⟩
  obtain ⟨E1, w1, fr1, x1, s1, S1, f1⟩ := h3 F w0 lim E w fr cs (Nat.le_trans k1 hl) hS hf hu
  obtain ⟨E2, w2, fr2, x2, s2, S2, f2⟩ := k3 F w0 lim E1 w1 fr1 cs hl S1 f1 (by rw [h2]; exact hu)
  exact ⟨E2, w2, fr2, x1.trans x2 h1 k1, s1.trans s2, S2, f2⟩

theorem Sound.step {P : Program} {h : Tr AO} {nx : Nat} {s s' : S} (h1 : s.nx = nx) (h2 : s'.nx = nx) (h3 : s.h = h) (h4 : s'.h = h) (h5 : s'.kd = s.kd) (h5a : s'.fn = s.fn) (h5b : s'.rd = s.rd)
    (hx : ∀ (E : Env) (w : World) (fr : Frame) (cs : List Frame), FrR E s fr → ∃ fr', step P (lone fr cs w) = .next (lone fr' cs w) ∧ FrR E s' fr') : Sound P s s' :=
  ⟨by omega, h5, h5a, h5b, fun F w0 lim E w fr cs hl hS hf hu => by
    obtain ⟨fr', hs, hf'⟩ := hx E w fr cs hf
    exact ⟨E, w, fr', .refl _ _ _, Steps.one hs, by rw [h2, h4]; rw [h1, h3] at hS; exact hS, hf'⟩⟩

section
variable {P : Program} {fn : FuncId} {t : Array Value} {k : List Item} {d : List Deferred} {kd : CallKind} {rd : Option Nat} {cs : List Frame} {w : World}

theorem st_skip : step P (lone ⟨fn, t, .code .skip :: k, d, .run, kd, rd⟩ cs w) = .next (lone ⟨fn, t, k, d, .run, kd, rd⟩ cs w) := step_lone_go (by simp [stepG, stepG.exec])
theorem st_label {l : Nat} : step P (lone ⟨fn, t, .code (.label l) :: k, d, .run, kd, rd⟩ cs w) = .next (lone ⟨fn, t, k, d, .run, kd, rd⟩ cs w) := step_lone_go (by simp [stepG, stepG.exec])
theorem st_inBlock {l : Nat} : step P (lone ⟨fn, t, .inBlock l :: k, d, .run, kd, rd⟩ cs w) = .next (lone ⟨fn, t, k, d, .run, kd, rd⟩ cs w) := step_lone_go (by simp [stepG, stepG.exec])
theorem st_inScope {c : Code} : step P (lone ⟨fn, t, .inScope c :: k, d, .run, kd, rd⟩ cs w) = .next (lone ⟨fn, t, k, d, .run, kd, rd⟩ cs w) := step_lone_go (by simp [stepG, stepG.exec])
theorem st_seq {a b : Code} : step P (lone ⟨fn, t, .code (.seq a b) :: k, d, .run, kd, rd⟩ cs w) = .next (lone ⟨fn, t, .code a :: .code b :: k, d, .run, kd, rd⟩ cs w) := step_lone_go (by simp [stepG, stepG.exec])
theorem st_block {i : Nat} {b : Code} : step P (lone ⟨fn, t, .code (.block i b) :: k, d, .run, kd, rd⟩ cs w) = .next (lone ⟨fn, t, .code b :: .inBlock i :: k, d, .run, kd, rd⟩ cs w) := step_lone_go (by simp [stepG, stepG.exec])
theorem st_loop {b : Code} : step P (lone ⟨fn, t, .code (.loop b) :: k, d, .run, kd, rd⟩ cs w) = .next (lone ⟨fn, t, .code b :: .inLoop b :: k, d, .run, kd, rd⟩ cs w) := step_lone_go (by simp [stepG, stepG.exec])
theorem st_inLoop {b : Code} : step P (lone ⟨fn, t, .inLoop b :: k, d, .run, kd, rd⟩ cs w) = .next (lone ⟨fn, t, .code b :: .inLoop b :: k, d, .run, kd, rd⟩ cs w) := step_lone_go (by simp [stepG, stepG.exec])
theorem st_scope {b : Code} : step P (lone ⟨fn, t, .code (.scope b) :: k, d, .run, kd, rd⟩ cs w) = .next (lone ⟨fn, t, .code b :: .inScope b :: k, d, .run, kd, rd⟩ cs w) := step_lone_go (by simp [stepG, stepG.exec])
theorem st_exit {i : Nat} {k' : List Item} (h : exitTo i k = some k') : step P (lone ⟨fn, t, .code (.exit i) :: k, d, .run, kd, rd⟩ cs w) = .next (lone ⟨fn, t, k', d, .run, kd, rd⟩ cs w) := step_lone_go (by simp [stepG, stepG.exec, h])
theorem st_goto {i : Nat} {k' : List Item} (h : gotoIn i k = some k') : step P (lone ⟨fn, t, .code (.goto i) :: k, d, .run, kd, rd⟩ cs w) = .next (lone ⟨fn, t, k', d, .run, kd, rd⟩ cs w) := step_lone_go (by simp [stepG, stepG.exec, h])
theorem st_ret : step P (lone ⟨fn, t, .code .ret :: k, d, .run, kd, none⟩ cs w) = .next (lone ⟨fn, t, .code .ret :: k, d, .returning, kd, none⟩ cs w) := step_lone_go (by simp [stepG, stepG.exec])
theorem st_end : step P (lone ⟨fn, t, [], d, .run, kd, none⟩ cs w) = .next (lone ⟨fn, t, [], d, .returning, kd, none⟩ cs w) := step_lone_go (by simp [stepG, stepG.exec])

theorem eval_fr (todo : List Item) (mode : FrameMode) : Frame.eval ⟨fn, t, todo, d, mode, kd, rd⟩ = Act.eval ⟨t, []⟩ := by
  funext x; cases x <;> rfl

theorem st_cond {c : Operand} {a b : Code} {z : Bool} (h : Act.eval ⟨t, []⟩ c = .bool z) :
    step P (lone ⟨fn, t, .code (.cond c a b) :: k, d, .run, kd, rd⟩ cs w) = .next (lone ⟨fn, t, .code (cond z a b) :: k, d, .run, kd, rd⟩ cs w) :=
  step_lone_go (by
    have := eval_fr (fn := fn) (t := t) (d := d) (kd := kd) (rd := rd) (.code (.cond c a b) :: k) .run
    simp only [stepG, stepG.exec, this, h]
    cases z <;> rfl)

theorem st_region {id : Nat} {ops : Array Oper} : step P (lone ⟨fn, t, .code (.region id ops false) :: k, d, .run, kd, rd⟩ cs w) = .next (lone ⟨fn, t, .inRegion ops (List.range ops.size) :: k, d, .run, kd, rd⟩ cs w) :=
  step_lone_go (by simp [stepG, stepG.exec])
theorem st_region_end {ops : Array Oper} : step P (lone ⟨fn, t, .inRegion ops [] :: k, d, .run, kd, rd⟩ cs w) = .next (lone ⟨fn, t, k, d, .run, kd, rd⟩ cs w) :=
  step_lone_go (by simp [stepG, stepG.exec])

def putA (t : Array Value) (dst : Option Tmp) (v : Value) : Array Value :=
  match dst with
  | some x => t.setIfInBounds x v
  | none => t

theorem fin_op {ops : Array Oper} {i : Nat} {rest : List Nat} {o : Oper} (ho : ops[i]? = some o) (mode : FrameMode) (v : Value) :
    Frame.finish ⟨fn, t, .inRegion ops (i :: rest) :: k, d, mode, kd, rd⟩ v = ⟨fn, putA t o.dst v, .inRegion ops rest :: k, d, mode, kd, rd⟩ := by
  cases hd : o.dst <;> simp [Frame.finish, ho, hd, putA]

theorem st_op_skip {ops : Array Oper} {i : Nat} {rest : List Nat} {o : Oper} (ho : ops[i]? = some o) (hw : Region.wanted o (yielded ops t) = false) :
    step P (lone ⟨fn, t, .inRegion ops (i :: rest) :: k, d, .run, kd, rd⟩ cs w) = .next (lone ⟨fn, putA t o.dst undef, .inRegion ops rest :: k, d, .run, kd, rd⟩ cs w) := by
  rw [← fin_op ho]
  exact step_lone_go (by simp [stepG, stepG.exec, ho, hw])

theorem stepG_op' {ops : Array Oper} {i : Nat} {rest : List Nat} {o : Oper} (ho : ops[i]? = some o) (hw : Region.wanted o (yielded ops t) = true) (hnd : rd = none ∨ ∀ c, o.op ≠ .defer c) :
    stepG P true { frame := ⟨fn, t, .inRegion ops (i :: rest) :: k, d, .run, kd, rd⟩, callers := cs, status := .running, dying := none } w =
      stepG.apply P true ⟨fn, t, .inRegion ops (i :: rest) :: k, d, .run, kd, rd⟩ cs none (execOp (Act.eval ⟨t, []⟩) o) w := by
  have he := eval_fr (fn := fn) (t := t) (d := d) (kd := kd) (rd := rd) (.inRegion ops (i :: rest) :: k) .run
  simp only [stepG, stepG.exec, stepG.oper, Frame.oper?, ho, Option.map_some, Option.getD_some, hw, if_true, he]
  rcases hnd with rfl | hnd
  · rfl
  · cases rd with
    | none => rfl
    | some l =>
      cases hop : o.op <;> first
        | exact absurd hop (hnd _)
        | simp

theorem st_op_value {ops : Array Oper} {i : Nat} {rest : List Nat} {o : Oper} (ho : ops[i]? = some o) (hw : Region.wanted o (yielded ops t) = true) (hnd : rd = none ∨ ∀ c, o.op ≠ .defer c) {v : Value} {res : Next} {w' : World}
    (hr : (execOp (Act.eval ⟨t, []⟩) o).run P w = .ok res w') (hres : res = .value v ∨ (res = .skip ∧ v = undef)) :
    step P (lone ⟨fn, t, .inRegion ops (i :: rest) :: k, d, .run, kd, rd⟩ cs w) = .next (lone ⟨fn, putA t o.dst v, .inRegion ops rest :: k, d, .run, kd, rd⟩ cs w') := by
  rw [← fin_op ho]
  refine step_lone_go ?_
  rw [stepG_op' ho hw hnd]
  rcases hres with rfl | ⟨rfl, rfl⟩ <;> simp [stepG.apply, hr]

theorem st_op_enter {ops : Array Oper} {i : Nat} {rest : List Nat} {o : Oper} (ho : ops[i]? = some o) (hw : Region.wanted o (yielded ops t) = true) (hnd : rd = none ∨ ∀ c, o.op ≠ .defer c) {f : FuncId} {args : Array Value} {w' : World}
    (hr : (execOp (Act.eval ⟨t, []⟩) o).run P w = .ok (.enter f args) w') :
    step P (lone ⟨fn, t, .inRegion ops (i :: rest) :: k, d, .run, kd, rd⟩ cs w) = .next (lone (Frame.enter P f args .normal) (⟨fn, t, .inRegion ops (i :: rest) :: k, d, .run, kd, rd⟩ :: cs) w') := by
  refine step_lone_go ?_
  rw [stepG_op' ho hw hnd]
  simp [stepG.apply, hr]

theorem st_op_round {ops : Array Oper} {i : Nat} {rest : List Nat} {o : Oper} (ho : ops[i]? = some o) (hw : Region.wanted o (yielded ops t) = true) (hnd : rd = none ∨ ∀ c, o.op ≠ .defer c) {l : Nat} {f : FuncId} {ts : Array Value} {a b : Code} {w' : World}
    (hr : (execOp (Act.eval ⟨t, []⟩) o).run P w = .ok (.round l f ts a b) w') :
    step P (lone ⟨fn, t, .inRegion ops (i :: rest) :: k, d, .run, kd, rd⟩ cs w) = .next (lone (Frame.round l f ts a b .normal) (⟨fn, t, .inRegion ops (i :: rest) :: k, d, .run, kd, rd⟩ :: cs) w') := by
  refine step_lone_go ?_
  rw [stepG_op' ho hw hnd]
  simp [stepG.apply, hr]

theorem st_op_defer {ops : Array Oper} {i : Nat} {rest : List Nat} {o : Oper} (ho : ops[i]? = some o) (hw : Region.wanted o (yielded ops t) = true) {df : Deferred} {w' : World}
    (hr : (execOp (Act.eval ⟨t, []⟩) o).run P w = .ok (.defer df) w') :
    step P (lone ⟨fn, t, .inRegion ops (i :: rest) :: k, d, .run, kd, none⟩ cs w) = .next (lone ⟨fn, putA t o.dst undef, .inRegion ops rest :: k, df :: d, .run, kd, none⟩ cs w') := by
  rw [← fin_op ho]
  refine step_lone_go ?_
  rw [stepG_op' ho hw (.inl rfl)]
  simp [stepG.apply, hr]

theorem st_op_recover {ops : Array Oper} {i : Nat} {rest : List Nat} {o : Oper} (ho : ops[i]? = some o) (hw : Region.wanted o (yielded ops t) = true) {c : Frame} (hc : Below1 c) {w' : World}
    (hr : (execOp (Act.eval ⟨t, []⟩) o).run P w = .ok .recover w') :
    step P (lone ⟨fn, t, .inRegion ops (i :: rest) :: k, d, .run, .deferred, none⟩ (c :: cs) w) = .next (lone ⟨fn, putA t o.dst .nilIface, .inRegion ops rest :: k, d, .run, .deferred, none⟩ (c :: cs) w') := by
  rw [← fin_op ho]
  refine step_lone_go ?_
  rw [stepG_op' ho hw (.inl rfl)]
  rcases hc with hc | ⟨v, hc⟩ <;> simp [stepG.apply, hr, tryRecover, hc]
end

theorem TmR.ev {E : Env} {tm : Tr Value} {nt : Nat} {t : Array Value} (h : TmR E tm nt t) (x : Operand) (v : Value) (he : ev tm x = some v) : VR E v (Act.eval ⟨t, []⟩ x) := by
  cases x with
  | tmp i =>
    have hv := h.2.2 i
    simp only [Ex.ev] at he
    show VR E v (t.getD i undef)
    cases hg : tm.get i with
    | some u => rw [hg] at he hv; simp only at he; cases he; exact hv
    | none => rw [hg] at he hv; simp only at he; cases he; exact hv
  | const u =>
    simp only [Ex.ev] at he
    cases hc : closed u with
    | false => rw [hc] at he; cases he
    | true => rw [hc] at he; cases he; exact VR.closed hc
  | global g => simp only [Ex.ev] at he; cases he
  | func f => simp only [Ex.ev] at he; cases he; exact .func (.func f) rfl (fun i a b p => by simp at p) rfl (fun i a b p => by simp at p)

theorem TmR.put {E : Env} {tm tm' : Tr Value} {nt : Nat} {t : Array Value} (h : TmR E tm nt t) {dst : Option Tmp} {v v' : Value} (hv : VR E v v') (he : putT tm nt dst v = some tm') : TmR E tm' nt (putA t dst v') := by
  unfold putT at he
  cases dst with
  | none => cases he; exact h
  | some x =>
    simp only at he
    cases hb : Nat.blt x nt with
    | false => rw [hb] at he; cases he
    | true =>
      rw [hb] at he
      cases he
      have hx := blt_lt hb
      refine ⟨by simpa [putA] using h.1, fun i hi => by rw [Tr.get_set, if_neg (by omega)]; exact h.2.1 i hi, fun i => ?_⟩
      rw [Tr.get_set]
      by_cases hi : i = x
      · subst hi
        have : i < t.size := by rw [h.1]; exact hx
        simpa [putA, this] using hv
      · rw [if_neg hi]
        have := h.2.2 i
        simp only [putA, Array.getD_eq_getD_getElem?] at this ⊢
        rw [Array.getElem?_setIfInBounds_ne (Ne.symm hi)]
        exact this

theorem guard_sound {E : Env} {tm : Tr Value} {nt : Nat} {t : Array Value} (h : TmR E tm nt t) {ops : Array Oper} {o : Oper} {b : Bool} (he : guardOf tm ops o.guard = some b) : Region.wanted o (yielded ops t) = b := by
  unfold guardOf at he
  unfold Region.wanted
  split at he
  · rename_i hg; rw [hg]; cases he; rfl
  · rename_i j want hg
    rw [hg]
    simp only
    split at he
    · rename_i oj hj
      split at he
      · rename_i dd hd
        have hv := h.2.2 dd
        have key : ∀ z : Option Value, (t[dd]? = z) → (match z with | some (.bool q) => some q | _ => none : Option Bool) = yielded ops t j := by
          intro z hz
          simp only [yielded, hj, hd, hz, Option.bind_some]
          cases z with
          | none => rfl
          | some y => cases y <;> rfl
        have hnb : ∀ u : Value, VR E u (t.getD dd undef) → (∀ q, u ≠ .bool q) → yielded ops t j = none := by
          intro u hu hn
          rw [← key _ rfl]
          cases hz : t[dd]? with
          | none => rfl
          | some y =>
            rw [Array.getD_eq_getD_getElem?, hz] at hu
            simp only [Option.getD_some] at hu
            cases hu with
            | atom h1 h2 => cases y <;> first | rfl | cases h2
            | _ => first
              | rfl
              | exact absurd rfl (hn _)
        split at he
        · rename_i q hq
          cases he
          rw [hq] at hv
          have e := VR.bool_inv hv
          have hz : t[dd]? = some (.bool q) := by
            rw [Array.getD_eq_getD_getElem?] at e
            cases hz : t[dd]? with
            | none => rw [hz] at e; simp [undef] at e
            | some y => rw [hz] at e; simpa using e
          rw [← key _ hz]
          cases q <;> cases want <;> rfl
        · rename_i hn
          cases he
          cases hg2 : tm.get dd with
          | none =>
            rw [hg2] at hv
            rw [hnb _ hv (by intro q; simp [undef])]
            rfl
          | some u =>
            rw [hg2] at hv
            rw [hnb u hv (by intro q e; subst e; exact hn q hg2)]
            rfl
      · rename_i hd
        cases he
        have : yielded ops t j = none := by simp [yielded, hj, hd]
        rw [this]; rfl
    · rename_i hj
      cases he
      have : yielded ops t j = none := by simp [yielded, hj]
      rw [this]; rfl
end Go.Proofs.Ex

namespace Go.Proofs.Ex
variable [Sg]
open Go.RowKit

def overG (s : S) : Prop := overA s.todo s.df s.md s.rd = true ∨ (s.md = true ∧ s.rd = none)
def Good (P : Program) (rec : S → Option S) : Prop := ∀ s s', rec s = some s' → Sound P s s' ∧ overG s'

section
variable {P : Program} {L : Lk} {rec : S → Option S}

def rvS (t : Array Value) : ResultVar → Sem Value
  | .tmp x => pure (t.getD x undef)
  | .cell a ty => do loadVar ty (← asAddr (t.getD a undef))
theorem results_eq (fd : Func) (t : Array Value) : results fd t = (do let vs ← fd.results.mapM (rvS t); pure (if h : vs.size = 1 then vs[0] else .tuple vs)) := rfl

theorem resA_sound (hti : ∀ t ti, L.ti.get t = some ti → TIok P t ti) {E : Env} {h : Tr AO} {w : World} (hr : HR E h w) {tm : Tr Value} {nt : Nat} {t : Array Value} (ht : TmR E tm nt t) : ∀ (l : List ResultVar) (vs : List Value), resA L tm h l = some vs →
    ∃ vs', LR E vs vs' ∧ (l.mapM (rvS t)).run P w = .ok vs' w := by
  intro l
  induction l with
  | nil => intro vs he; cases he; exact ⟨[], .nil E, by simp⟩
  | cons x l ih =>
    intro vs he
    cases x with
    | tmp i =>
      simp only [resA] at he
      split at he
      · rename_i r hr1
        cases he
        obtain ⟨vs', h1, h2⟩ := ih r hr1
        have hv := ht.2.2 i
        refine ⟨t.getD i undef :: vs', .cons ?_ h1, ?_⟩
        · cases hg : tm.get i with
          | none => rw [hg] at hv; exact hv
          | some u => rw [hg] at hv; exact hv
        · simp only [List.mapM_cons, Sem.run_bind, rvS, Sem.run_pure, Result.andThen_ok, h2]
      · cases he
    | cell a ty =>
      simp only [resA] at he
      split at he
      · rename_i v r hv1 hr1
        cases he
        obtain ⟨vs', h1, h2⟩ := ih r hr1
        split at hv1
        · rename_i u hu
          have hv := ht.2.2 a
          rw [hu] at hv
          simp only [Option.getD_some] at hv
          obtain ⟨x', g1, g2⟩ := loadA_sound hti hr hv hv1
          refine ⟨x' :: vs', .cons g2 h1, ?_⟩
          have g3 : (rvS t (.cell a ty)).run P w = .ok x' w := by
            show (do loadVar ty (← asAddr (t.getD a undef)) : Sem Value).run P w = .ok x' w
            generalize t.getD a undef = y at g1 hv ⊢
            unfold loadA at hv1
            split at hv1
            · cases hv with
              | ptr ad => exact g1
            · cases hv1
          simp only [List.mapM_cons, Sem.run_bind, g3, Result.andThen_ok, h2, Sem.run_pure]
        · cases hv1
      · cases he

theorem valOf_rel {E : Env} {vs vs' : List Value} (h : LR E vs vs') : VR E (valOf vs) (if hh : vs'.toArray.size = 1 then vs'.toArray[0] else .tuple vs'.toArray) := by
  unfold valOf
  cases vs with
  | nil => have := h.nil_right; subst this; exact VR.undef E
  | cons v l =>
    obtain ⟨v', l', rfl, hv, hl⟩ := h.cases
    cases l with
    | nil => have := hl.nil_right; subst this; exact hv
    | cons u l =>
      obtain ⟨u', l2, rfl, hu, hl2⟩ := hl.cases
      simp only
      rw [dif_neg (by simp)]
      exact .tuple (by simpa using h.1) h.array.2

theorem resultA_sound (hti : ∀ t ti, L.ti.get t = some ti → TIok P t ti) {E : Env} {h : Tr AO} {w : World} (hr : HR E h w) {tm : Tr Value} {nt : Nat} {t : Array Value} (ht : TmR E tm nt t) {f : FuncId} {fd : Func} (hf : L.fs.get f = some fd) {v : Value} (he : resultA L tm h f = some v) :
    ∃ v', (results fd t).run P w = .ok v' w ∧ VR E v v' := by
  unfold resultA at he
  rw [hf] at he
  simp only at he
  split at he
  · rename_i vs hvs
    cases he
    obtain ⟨vs', h1, h2⟩ := resA_sound hti hr ht _ _ hvs
    refine ⟨_, ?_, valOf_rel h1⟩
    have h3 : (fd.results.mapM (rvS t)).run P w = .ok vs'.toArray w := by
      rw [Array.mapM_eq_mapM_toList, Sem.run_map, h2]
      rfl
    rw [results_eq, Sem.run_bind, h3]
    rfl
  · cases he

theorem enterA_frame {h : Tr AO} {nx : Nat} {f : FuncId} {args : List Value} {kd : Bool} {s : S} (he : enterA L h nx f args kd = some s) :
    s.h = h ∧ s.nx = nx ∧ s.fn = f ∧ s.kd = kd ∧ s.rd = none ∧ ∃ fd c, L.fs.get f = some fd ∧ fd.body = some c ∧
    ∀ (E : Env) (args' : Array Value), LR E args args'.toList → P.funcs[f]? = some fd → FrR E s (Frame.enter P f args' (kindOf kd)) := by
  unfold enterA at he
  split at he
  · rename_i fd hfd
    split at he
    · rename_i c hc
      cases he
      refine ⟨rfl, rfl, rfl, rfl, rfl, fd, c, hfd, hc, fun E args' ha hp => ?_⟩
      have hlen : args.length = args'.size := by simpa using ha.1
      have hfr : Frame.enter P f args' (kindOf kd) = ⟨f, args' ++ Array.replicate (fd.ntmps - args'.size) undef, [.code c], [], .run, kindOf kd, none⟩ := by
        simp [Frame.enter, hp, hc]
      rw [hfr]
      refine ⟨rfl, ⟨by simp [hlen], fun t ht => ?_, fun t => ?_⟩, .code c .nil, .nil, rfl, rfl, trivial⟩
      · rw [Tr.get_setL, if_neg (by simp at ht; omega)]; rfl
      · rw [Tr.get_setL]
        by_cases ht : t < args.length
        · rw [if_pos (by omega), Nat.sub_zero, List.getElem?_eq_getElem ht]
          have h2 : t < args'.size := by omega
          have e : (args' ++ Array.replicate (fd.ntmps - args'.size) undef).getD t undef = args'[t] := by
            rw [Array.getD_eq_getD_getElem?, Array.getElem?_append_left h2]; simp [h2]
          rw [e]
          exact ha.2 t _ _ (by rw [List.getElem?_eq_getElem ht]; rfl) (by simp)
        · rw [if_neg (by omega)]
          have e : (args' ++ Array.replicate (fd.ntmps - args'.size) undef).getD t undef = undef := by
            rw [Array.getD_eq_getD_getElem?, Array.getElem?_append_right (by omega), Array.getElem?_replicate]
            split <;> rfl
          rw [e]
          exact VR.undef E
    · cases he
  · cases he

theorem st_return {fn : FuncId} {fd : Func} (hp : P.funcs[fn]? = some fd) {t : Array Value} {todo : List Item} {rd : Option Nat} {w : World} {v : Value} (hr : (results fd t).run P w = .ok v w) {c : Frame} {cs : List Frame} (kd : Bool) (hk : kd = true → c.mode = .returning) :
    step P (lone ⟨fn, t, todo, [], .returning, kindOf kd, rd⟩ (c :: cs) w) = .next (lone (if kd then c else c.finish v) cs w) := by
  refine step_lone_go ?_
  cases kd with
  | false => simp [stepG, unwind, doReturn, hp, hr, kindOf]
  | true =>
    have := hk rfl
    simp [stepG, unwind, doReturn, hp, hr, kindOf, this]

theorem run_loop {w : World} {l : Nat} {r : Loop} (h : w.heap[l]? = some (.loop r)) (j : Option Code) :
    (Instr.endRound l j).run P w = .ok (.bool j.isNone) (w.putObj l (.loop { r with state := if j.isNone then .ready else .done, pending := j })) := by
  exact run_endRound j h

theorem st_leave_round {fn : FuncId} {t : Array Value} {todo : List Item} {d : List Deferred} {l : Nat} {c : Frame} {cs : List Frame} {w w1 : World} {j : Option Code}
    (hj : leavesA todo = some j) (hr : (Instr.endRound l j).run P w = .ok (.bool j.isNone) w1) :
    step P (lone ⟨fn, t, todo, d, .run, .normal, some l⟩ (c :: cs) w) = .next (lone (c.finish (.bool j.isNone)) cs w1) := by
  refine step_lone_go ?_
  unfold leavesA at hj
  split at hj
  · cases hj
    simp [stepG, stepG.exec, hr, doReturn]
  · cases hj
    simp [stepG, stepG.exec, hr, doReturn]
  · rename_i id k
    split at hj
    · rename_i hx
      cases hj
      simp [stepG, stepG.exec, hr, doReturn, hx]
    · cases hj
  · rename_i id k
    split at hj
    · rename_i hx
      cases hj
      simp [stepG, stepG.exec, hr, doReturn, hx]
    · cases hj
  · cases hj

theorem leavesA_rel {E : Env} {k k' : List Item} (x : ItR E k k') {j : Option Code} (h : leavesA k = some j) : leavesA k' = some j := by
  cases x with
  | nil => exact h
  | code c x =>
    cases c <;> first
      | exact h
      | (rename_i id
         simp only [leavesA] at h ⊢
         split at h
         · rename_i hx
           first
             | rw [(exitTo_rel x id).2 hx]
             | rw [(gotoIn_rel x id).2 hx]
           exact h
         · cases h)
  | _ => simp [leavesA] at h

theorem endRoundA_sound {F : Nat → Prop} {w0 : World} {lim : Nat} {E : Env} {h h' : Tr AO} {nx : Nat} {w : World} (hS : Sit F w0 lim E h nx w) {l l' : Nat} (hl : E.ρ l = some l') {j : Option Code} (he : endRoundA h l j = some h') :
    ∃ w1, (Instr.endRound l' j).run P w = .ok (.bool j.isNone) w1 ∧ Sit F w0 lim E h' nx w1 := by
  unfold endRoundA at he
  split at he
  · rename_i st p fn tm nt ps a b d hg
    cases he
    obtain ⟨b', o', h1, h2, h3⟩ := hS.hr _ _ hg
    rw [hl] at h1; cases h1
    cases h3 with
    | loop ht hd =>
      rename_i ts d'
      refine ⟨_, run_loop h2 j, ?_⟩
      have := hS.setObj hg hl h2 (o2 := .loop (match j with | none => .ready | some _ => .done) j fn tm nt ps a b d)
        (o' := .loop { state := if j.isNone then .ready else .done, pending := j, fn := fn, tmps := ts, params := ps, assign := a, body := b, defers := d' }) (by
          cases j with
          | none => exact .loop ht hd
          | some c => exact .loop ht hd)
      exact this
  · cases he

theorem backA_sound (hL : LkOK P L) (hrec : Good P rec) {s : S} {v : Value} {h' : Tr AO} {nx' : Nat} (he : backA L (rec s) = some (v, h', nx')) (hkd : s.rd ≠ none → s.kd = false) :
    s.nx ≤ nx' ∧ ∀ (F : Nat → Prop) (w0 : World) (lim : Nat) (E : Env) (w : World) (fr c : Frame) (cs : List Frame), nx' ≤ lim → Sit F w0 lim E s.h s.nx w → FrR E s fr → (s.kd = true → c.mode = .returning) →
      ∃ E' w' v', Ext E E' s.nx nx' ∧ Steps P (lone fr (c :: cs) w) (lone (if s.kd then c else c.finish v') cs w') ∧ Sit F w0 lim E' h' nx' w' ∧ VR E' v v' := by
  cases hr : rec s with
  | none => rw [hr] at he; cases he
  | some s1 =>
    rw [hr] at he
    obtain ⟨⟨g1, g2, g2a, g2b, g3⟩, hov⟩ := hrec s s1 hr
    obtain ⟨h1, n1, f1, tm1, nt1, todo1, df1, md1, kd1, rd1⟩ := s1
    simp only at g1 g2 g2a g2b
    simp only [backA] at he
    cases md1 with
    | false =>
      simp only at he
      split at he
      · rename_i v1 hv1
        cases he
        refine ⟨g1, fun F w0 lim E w fr c cs hl hS hfr hm => ?_⟩
        obtain ⟨E', w', fr', x1, x2, x3, x4⟩ := g3 F w0 lim E w fr (c :: cs) hl hS hfr (fun hk => ⟨c, cs, rfl, .inl (hm hk)⟩)
        obtain ⟨fn', tmps', todo', defers', mode', kind', rd'⟩ := fr'
        obtain ⟨y1, y2, y3, y4, y5, y6, y7⟩ := x4
        simp only at y1 y2 y3 y4 y5 y6 y7
        have hdf : df1 = [] := by
          rcases hov with hov | ⟨hov, _⟩
          · unfold overA at hov
            cases df1 with
            | nil => rfl
            | cons a l => simp at hov
          · cases hov
        subst hdf
        cases y4
        simp only [Bool.false_eq_true, if_false] at y5
        subst y1 y5 y6
        have hfd : ∃ fd, L.fs.get fn' = some fd := by
          unfold resultA at hv1
          cases hq : L.fs.get fn' with
          | none => rw [hq] at hv1; cases hv1
          | some fd => exact ⟨fd, rfl⟩
        obtain ⟨fd, q1⟩ := hfd
        obtain ⟨v', z1, z2⟩ := resultA_sound hL.ti x3.hr y2 q1 hv1
        refine ⟨E', w', v', x1, x2.trans (Steps.one ?_), x3, z2⟩
        rw [g2]
        exact st_return (hL.fs _ _ q1) z1 s.kd hm
      · cases he
    | true =>
      simp only at he
      split at he
      · rename_i l j hj
        split at he
        · rename_i hh hend
          cases he
          refine ⟨g1, fun F w0 lim E w fr c cs hl hS hfr hm => ?_⟩
          have hkf : s.kd = false := hkd (by rw [← g2b]; simp)
          obtain ⟨E', w', fr', x1, x2, x3, x4⟩ := g3 F w0 lim E w fr (c :: cs) hl hS hfr (fun hk => ⟨c, cs, rfl, .inl (hm hk)⟩)
          obtain ⟨fn', tmps', todo', defers', mode', kind', rd'⟩ := fr'
          obtain ⟨y1, y2, y3, y4, y5, y6, y7⟩ := x4
          simp only at y1 y2 y3 y4 y5 y6 y7
          simp only [if_true] at y5
          rw [g2, hkf] at y6
          subst y5 y6
          cases rd' with
          | none => exact y7.elim
          | some l' =>
            obtain ⟨w1, z1, z2⟩ := endRoundA_sound (P := P) x3 y7 hend
            refine ⟨E', w1, .bool j.isNone, x1, x2.trans (Steps.one ?_), z2, ?_⟩
            · rw [hkf]
              exact st_leave_round (leavesA_rel y3 hj) z1
            · cases j <;> exact .bool _
        · cases he
      · cases he

theorem Sit.of_below {F : Nat → Prop} {w0 : World} {lim : Nat} {E : Env} {h : Tr AO} {nx : Nat} {w w1 : World} (hS : Sit F w0 lim E h nx w) (hb : Below w.heap.size w w1) : Sit F w0 lim E h nx w1 :=
  have hlt : ∀ k o, w.heap[k]? = some o → k < w.heap.size := fun k o h => (Array.getElem?_eq_some_iff.1 h).1
  ⟨fun j oj hj => by
    obtain ⟨b, o, h1, h2, h3⟩ := hS.hr j oj hj
    exact ⟨b, o, h1, (hb.block b (hlt b o h2)).trans h2, h3⟩, hS.inj, hb.os.trans hS.os, hb.tape.trans hS.tape, hb.output.trans hS.output,
   fun k hk => ⟨Nat.lt_of_lt_of_le (hS.keeps k hk).1 hb.size, (hb.block k (hS.keeps k hk).1).trans (hS.keeps k hk).2⟩, hS.away, hS.fresh, hS.gr⟩

theorem callsA_sound (hL : LkOK P L) (hrec : Good P rec) {h : Tr AO} {nx : Nat} {f : FuncId} {args : List Value} {kd : Bool} {v : Value} {h' : Tr AO} {nx' : Nat} (he : callsA L rec h nx f args kd = some (v, h', nx')) :
    nx ≤ nx' ∧ ∀ (F : Nat → Prop) (w0 : World) (lim : Nat) (E : Env) (w : World) (args' : Array Value) (c : Frame) (cs : List Frame), nx' ≤ lim → Sit F w0 lim E h nx w → LR E args args'.toList → (kd = true → c.mode = .returning) →
      ∃ E' w' v', Ext E E' nx nx' ∧ Steps P (lone (Frame.enter P f args' (kindOf kd)) (c :: cs) w) (lone (if kd then c else c.finish v') cs w') ∧ Sit F w0 lim E' h' nx' w' ∧ VR E' v v' := by
  unfold callsA at he
  split at he
  · rename_i v1 horc
    cases he
    cases kd with
    | true => cases horc
    | false =>
      refine ⟨Nat.le_refl _, fun F w0 lim E w args' c cs hl hS ha _ => ?_⟩
      have hc := hL.orc f args h v horc E w args'.toList F (Sg.mono hS.gr (fun _ h => h) (fun k hk => (hS.keeps k hk).2)) hS.hr ha
      obtain ⟨e, w', fr, ⟨v', rfl, hv, hb⟩, hcomes, hfn, hleave⟩ := hc (c :: cs)
      refine ⟨E, w', v', .refl _ _ _, ?_, hS.of_below hb, hv⟩
      have h1 : Steps P (lone (Frame.enter P f args' .normal) (c :: cs) w) (lone fr (c :: cs) w') := hcomes
      exact h1.trans (Steps.one (step_leave_returned hleave))
  · split at he
    · rename_i r horx
      cases he
      cases kd with
      | true => cases horx
      | false =>
        obtain ⟨g1, g2⟩ := hL.orx f args h nx v h' nx' horx
        exact ⟨g1, fun F w0 lim E w args' c cs hl hS ha _ => g2 F w0 lim E w args' c cs hl hS ha⟩
    · split at he
      · rename_i s hs
        obtain ⟨e1, e2, e3, e4, e5, fd, cc, e6, e7, e8⟩ := enterA_frame (P := P) hs
        obtain ⟨g1, g2⟩ := backA_sound hL hrec he (fun hne => absurd e5 hne)
        rw [e2] at g1
        refine ⟨g1, fun F w0 lim E w args' c cs hl hS ha hm => ?_⟩
        have := g2 F w0 lim E w (Frame.enter P f args' (kindOf kd)) c cs hl (by rw [e1, e2]; exact hS) (e8 E args' ha (hL.fs _ _ e6)) (by rw [e4]; exact hm)
        rw [e2, e4] at this
        exact this
      · cases he

theorem setParams_sound {E : Env} {nt : Nat} : ∀ (ps : List Tmp) (vs vs' : List Value) (tm tm' : Tr Value) (t : Array Value), TmR E tm nt t → LR E vs vs' → setParams tm nt ps vs = some tm' →
    ps.length = vs.length ∧ TmR E tm' nt ((ps.zip vs').foldl (fun tmps x => tmps.setIfInBounds x.1 x.2) t) := by
  intro ps
  induction ps with
  | nil =>
    intro vs vs' tm tm' t ht hv he
    cases vs with
    | nil => simp only [setParams] at he; cases he; rw [hv.nil_right]; exact ⟨rfl, ht⟩
    | cons v vs => simp [setParams] at he
  | cons p ps ih =>
    intro vs vs' tm tm' t ht hv he
    cases vs with
    | nil => simp [setParams] at he
    | cons v vs =>
      obtain ⟨v', t', rfl, h1, h2⟩ := hv.cases
      simp only [setParams] at he
      cases hb : Nat.blt p nt with
      | false => rw [hb] at he; cases he
      | true =>
        rw [hb] at he
        simp only [cond_true] at he
        have hput : putT tm nt (some p) v = some (tm.set p v) := by simp [putT, hb]
        obtain ⟨g1, g2⟩ := ih vs t' _ tm' _ (ht.put h1 hput) h2 he
        exact ⟨by simp [g1], by simpa [putA] using g2⟩

theorem roundsA_sound (hL : LkOK P L) (hrec : Good P rec) {h : Tr AO} {nx l : Nat} {args : List Value} {v : Value} {h' : Tr AO} {nx' : Nat} (he : roundsA L rec h nx l args = some (v, h', nx')) :
    nx ≤ nx' ∧ ∀ (F : Nat → Prop) (w0 : World) (lim : Nat) (E : Env) (w : World) (l' : Nat) (args' : Array Value), nx' ≤ lim → Sit F w0 lim E h nx w → E.ρ l = some l' → LR E args args'.toList →
      ∃ f ts a b, (Instr.yield l' args').run P w = .ok (.round l' f ts a b) w ∧ ∀ (c : Frame) (cs : List Frame),
      ∃ E' w' v', Ext E E' nx nx' ∧ Steps P (lone (Frame.round l' f ts a b .normal) (c :: cs) w) (lone (c.finish v') cs w') ∧ Sit F w0 lim E' h' nx' w' ∧ VR E' v v' := by
  unfold roundsA at he
  split at he
  · rename_i s hs
    unfold roundA at hs
    split at hs
    · rename_i st p fn tm nt ps a b d hg
      split at hs
      · rename_i tm1 htm
        cases hs
        obtain ⟨g1, g2⟩ := backA_sound hL hrec he (fun _ => rfl)
        refine ⟨g1, fun F w0 lim E w l' args' hl hS hlr ha => ?_⟩
        obtain ⟨b', o', h1, h2, h3⟩ := hS.hr _ _ hg
        rw [hlr] at h1; cases h1
        cases h3 with
        | loop ht hd =>
          rename_i ts d'
          obtain ⟨q1, q2⟩ := setParams_sound ps.toList args args'.toList tm tm1 ts ht ha htm
          have hsz : args'.size = ps.size := by
            have := ha.1
            simp at q1 this; omega
          have hy := run_yield (P := P) h2 (args := args') hsz
          refine ⟨fn, _, a, b, hy, fun c cs => ?_⟩
          have hfr : FrR E ⟨h, nx, fn, tm1, nt, [.code a, .beginRound, .code b], [], true, false, some l⟩ (Frame.round l' fn ((ps.zip args').foldl (fun tmps x => tmps.setIfInBounds x.1 x.2) ts) a b .normal) := by
            refine ⟨rfl, ?_, .code a (.beginRound (.code b .nil)), .nil, rfl, rfl, hlr⟩
            have e : (ps.zip args').foldl (fun tmps x => tmps.setIfInBounds x.1 x.2) ts = (ps.toList.zip args'.toList).foldl (fun tmps x => tmps.setIfInBounds x.1 x.2) ts := by
              rw [← Array.foldl_toList]; simp
            show TmR E tm1 nt _
            rw [show (Frame.round l' fn ((ps.zip args').foldl (fun tmps x => tmps.setIfInBounds x.1 x.2) ts) a b .normal).tmps = (ps.zip args').foldl (fun tmps x => tmps.setIfInBounds x.1 x.2) ts from rfl, e]
            exact q2
          exact g2 F w0 lim E w _ c cs hl hS hfr (fun hk => by cases hk)
      · cases hs
    · cases hs
  · cases he
end
end Go.Proofs.Ex

namespace Go.Proofs.Ex
variable [Sg]

section
variable {P : Program} {L : Lk} {tm : Tr Value} {h h1 : Tr AO} {nx nx1 : Nat} {v : Value}

theorem vR_mono {o : Option Value} (he : vR h nx o = some (.val v h1 nx1)) : nx ≤ nx1 := by
  unfold vR at he
  split at he
  · cases he; exact Nat.le_refl _
  · cases he
theorem pureV_mono {vs : List Value} {s : Sem Value} (he : pureV P vs s h nx = some (.val v h1 nx1)) : nx ≤ nx1 := by
  unfold pureV at he
  rw [Bool.cond_eq_ite] at he
  split at he
  · split at he
    · rw [Bool.cond_eq_ite] at he
      split at he
      · cases he; exact Nat.le_refl _
      · cases he
    · cases he
  · cases he
theorem appendNew_mono {e : TypeId} {size need : Nat} {all : List Value} (he : appendNew h nx e size need all = some (.val v h1 nx1)) : nx ≤ nx1 := by
  unfold appendNew at he
  rw [Bool.cond_eq_ite] at he
  split at he
  · cases he; omega
  · cases he
theorem appendA_mono {ts : List TypeId} {s x : Value} (he : appendA L h nx ts s x = some (.val v h1 nx1)) : nx ≤ nx1 := by
  unfold appendA at he
  repeat' (first | split at he | (simp only [Bool.cond_eq_ite] at he))
  all_goals first
    | (cases he; done)
    | (unfold appendRoom at he
       repeat' (first | split at he | (simp only [Bool.cond_eq_ite] at he))
       all_goals first
         | (cases he; done)
         | (cases he; omega))
    | (unfold appendGrow at he
       split at he
       · exact appendNew_mono he
       · cases he)
    | (unfold appendEither at he
       repeat' (first | split at he | (simp only [Bool.cond_eq_ite] at he))
       all_goals first
         | (cases he; done)
         | exact appendNew_mono he)
theorem copyCells_mono {size n b off : Nat} {s : Value} (he : copyCells h nx size n b off s = some (.val v h1 nx1)) : nx ≤ nx1 := by
  unfold copyCells at he
  repeat' (first | split at he | (simp only [Bool.cond_eq_ite] at he))
  all_goals first
    | (cases he; done)
    | (cases he; omega)
theorem copyA_mono {ts : List TypeId} {s x : Value} (he : copyA L h nx ts s x = some (.val v h1 nx1)) : nx ≤ nx1 := by
  unfold copyA at he
  repeat' (first | split at he | (simp only [Bool.cond_eq_ite] at he))
  all_goals first
    | (cases he; done)
    | (cases he; omega)
    | (unfold copyLong at he
       repeat' (first | split at he | (simp only [Bool.cond_eq_ite] at he))
       all_goals first
         | (cases he; done)
         | (cases he; omega))
    | (unfold copyWhole at he
       repeat' (first | split at he | (simp only [Bool.cond_eq_ite] at he))
       all_goals first
         | (cases he; done)
         | (cases he; omega)
         | exact copyCells_mono he)
theorem mapUpdateA_mono {t : TypeId} {m k x : Value} (he : mapUpdateA L h nx t m k x = some (.val v h1 nx1)) : nx ≤ nx1 := by
  unfold mapUpdateA at he
  repeat' (split at he)
  all_goals first
    | (cases he; done)
    | (cases he; omega)
theorem makeSliceA_mono {t : TypeId} {m k : Value} (he : makeSliceA L h nx t m k = some (.val v h1 nx1)) : nx ≤ nx1 := by
  unfold makeSliceA at he
  repeat' (first | split at he | (simp only [Bool.cond_eq_ite] at he))
  all_goals first
    | (cases he; done)
    | (cases he; omega)
theorem callA_mono {f : Value} {args : List Value} (he : callA L h nx f args = some (.val v h1 nx1)) : nx ≤ nx1 := by
  unfold callA at he
  repeat' (split at he)
  all_goals first
    | (cases he; done)
    | (cases he; omega)
theorem builtinA_mono {b : Builtin} {ts : List TypeId} {args : List Value} (he : builtinA P L h nx b ts args = some (.val v h1 nx1)) : nx ≤ nx1 := by
  unfold builtinA at he
  split at he
  · exact appendA_mono he
  · exact copyA_mono he
  · exact vR_mono he
  · exact vR_mono he
  · exact pureV_mono he
  · exact pureV_mono he
  · cases he
  · cases he

theorem aop0_mono {op : Op} (he : aop0 P L tm h nx op = some (.val v h1 nx1)) : nx ≤ nx1 := by
  cases op <;> simp only [aop0] at he
  case move => exact vR_mono he
  case assign => exact vR_mono he
  case extract =>
    unfold aExtract at he
    split at he
    · exact vR_mono he
    · cases he
  case load =>
    unfold aLoad at he
    split at he
    · exact vR_mono he
    · cases he
  case unOp =>
    unfold aUn at he
    split at he
    · exact pureV_mono he
    · cases he
  case binOp =>
    unfold aBin at he
    split at he
    · rw [Bool.cond_eq_ite] at he
      split at he
      · exact pureV_mono he
      · unfold aEq at he
        repeat' (split at he)
        all_goals first
          | (cases he; done)
          | (cases he; omega)
    · cases he
  case convert =>
    unfold aConv at he
    repeat' (first | split at he | (simp only [Bool.cond_eq_ite] at he))
    all_goals first
      | (cases he; done)
      | exact pureV_mono he
      | (cases he; omega)
  case index =>
    unfold aIndex at he
    repeat' (first | split at he | (simp only [Bool.cond_eq_ite] at he))
    all_goals first
      | (cases he; done)
      | exact pureV_mono he
      | exact vR_mono he
  case makeSlice =>
    unfold aMakeSlice at he
    split at he
    · exact makeSliceA_mono he
    · cases he
  case mapUpdate =>
    unfold aUpdate at he
    split at he
    · exact mapUpdateA_mono he
    · cases he
  case insert =>
    unfold aUpdate at he
    split at he
    · exact mapUpdateA_mono he
    · cases he
  case call c =>
    obtain ⟨ce, as, ts⟩ := c
    simp only at he
    unfold aCall at he
    split at he
    · cases he
    · split at he
      · split at he
        · exact callA_mono he
        · cases he
      · exact builtinA_mono he
      · cases he
  case defer c =>
    obtain ⟨ce, as, ts⟩ := c
    simp only at he
    unfold aDefer at he
    repeat' (split at he)
    all_goals (cases he; done)
  case makeMap t r =>
    cases r with
    | none => simp only at he; cases he; omega
    | some x => simp at he
  case next x s =>
    cases s with
    | true =>
      simp only at he
      unfold aNext at he
      repeat' (first | split at he | (simp only [Bool.cond_eq_ite] at he))
      all_goals first
        | (cases he; done)
        | (cases he; omega)
    | false => simp at he
  all_goals first
    | (cases he; done)
    | (simp only [aPick, aAlloc, aBox, aBuild, aBuildSlice, aStore, aNil, aIface, aFunc, aSlice, aFieldAddr, aField, aIndexAddr, aLookup, aAssert, aRange] at he
       repeat' (first | split at he | (simp only [Bool.cond_eq_ite] at he))
       all_goals first
         | (cases he; done)
         | exact vR_mono he
         | (cases he; omega))

theorem symA_val {op : Op} {r : R} (he : symA L tm h nx op = some r) : ∃ v, r = .val v h nx := by
  unfold symA vR at he
  repeat' (split at he)
  all_goals first
    | (cases he; done)
    | (cases he; exact ⟨_, rfl⟩)

theorem aop_mono {op : Op} (he : aop P L tm h nx op = some (.val v h1 nx1)) : nx ≤ nx1 := by
  unfold aop at he
  split at he
  · rename_i r h0
    cases he
    exact aop0_mono h0
  · obtain ⟨v', e⟩ := symA_val he
    cases e
    exact Nat.le_refl _
end
end Go.Proofs.Ex

namespace Go.Proofs.Ex
variable [Sg]
open Go.RowKit

section
variable {P : Program} {L : Lk} {rec : S → Option S}

def OpS (P : Program) (kd : Bool) (rd : Option Nat) (nt : Nat) (ops : Array Oper) (i : Nat) (rest : List Nat) (tm : Tr Value) (h : Tr AO) (nx : Nat) (df : List Deferred) (g : G) (rest' : List Nat) : Prop :=
  nx ≤ g.nx ∧ ∀ (F : Nat → Prop) (w0 : World) (lim : Nat) (E : Env) (w : World) (fn : FuncId) (t : Array Value) (k : List Item) (d : List Deferred) (rd' : Option Nat) (cs : List Frame), g.nx ≤ lim → Sit F w0 lim E h nx w → TmR E tm nt t → DefsR E df d → RdR E rd rd' → UpR kd cs →
    ∃ E' w' t' d', Ext E E' nx g.nx ∧ Steps P (lone ⟨fn, t, .inRegion ops (i :: rest) :: k, d, .run, kindOf kd, rd'⟩ cs w) (lone ⟨fn, t', .inRegion ops rest' :: k, d', .run, kindOf kd, rd'⟩ cs w') ∧ Sit F w0 lim E' g.h g.nx w' ∧ TmR E' g.tm nt t' ∧ DefsR E' g.df d'

theorem aop_defer {tm : Tr Value} {h : Tr AO} {nx : Nat} {c : Call} {r : R} (he : aop P L tm h nx (.defer c) = some r) : ∃ d, r = .defer d := by
  obtain ⟨ce, as, ts⟩ := c
  unfold aop at he
  split at he
  · rename_i r' h0
    cases he
    simp only [aop0] at h0
    unfold aDefer at h0
    split at h0
    · cases h0
    · split at h0
      · split at h0
        · cases h0; exact ⟨_, rfl⟩
        · cases h0
      · cases h0
  · simp [symA] at he

theorem opA_sound (hL : LkOK P L) (hrec : Good P rec) {kd : Bool} {rd : Option Nat} {ops : Array Oper} {nt i : Nat} {rest : List Nat} {o : Oper} (ho : ops[i]? = some o) {tm : Tr Value} {h : Tr AO} {nx : Nat} {df : List Deferred} {kk : G → Option G} {g' : G}
    (he : opA P L rec kd rd ops nt o.dst o.op o.guard tm h nx df kk = some g') : ∃ g, kk g = some g' ∧ OpS P kd rd nt ops i rest tm h nx df g rest := by
  unfold opA at he
  split at he
  · cases he
  · rename_i b hgd
    cases b with
    | false =>
      simp only [cond_false] at he
      unfold putG at he
      simp only at he
      split at he
      · rename_i tm' htm
        refine ⟨_, he, Nat.le_refl _, fun F w0 lim E w fn t k d rd' cs hl hS ht hd hr hu => ?_⟩
        have hw := guard_sound ht hgd
        exact ⟨E, w, putA t o.dst undef, d, .refl _ _ _, Steps.one (st_op_skip ho hw), hS, ht.put (VR.undef E) htm, hd⟩
      · cases he
    | true =>
      simp only [cond_true] at he
      unfold doneA at he
      split at he
      · cases he
      · rename_i r hr
        have hnd : ∀ c, o.op = .defer c → ∃ d, r = .defer d := fun c hc => aop_defer (by rw [hc] at hr; exact hr)
        split at he
        · -- a value
          rename_i v h1 nx1
          unfold putG at he
          simp only at he
          split at he
          · rename_i tm' htm
            have hle : ∀ {E : Env} {w w0 : World} {F : Nat → Prop} {lim : Nat} {ρ : Operand → Value}, Sit F w0 lim E h nx w → (∀ x v, ev tm x = some v → VR E v (ρ x)) → RR P F w0 lim E nx w (.val v h1 nx1) (execOp ρ o) := fun hS hρ => aop_sound hL hS hρ hr
            have hnx : nx ≤ nx1 := aop_mono hr
            refine ⟨_, he, hnx, fun F w0 lim E w fn t k d rd' cs hl hS ht hd hrr hu => ?_⟩
            obtain ⟨_, hv⟩ := hle hS (fun x v hx => ht.ev x v hx)
            obtain ⟨E1, w1, v1, res, q1, q2, q3, q4, q5⟩ := hv hl
            have hw := guard_sound ht hgd
            exact ⟨E1, w1, putA t o.dst v1, d, q3, Steps.one (st_op_value ho hw (.inr fun c hc => by obtain ⟨_, e⟩ := hnd c hc; cases e) q1 q2), q4, (ht.mono q3.1).put q5 htm, hd.mono q3.1⟩
          · cases he
        · -- a call
          rename_i f args
          unfold putG at he
          split at he
          · rename_i v h1 nx1 hcall
            split at he
            · rename_i tm' htm
              obtain ⟨g1, g2⟩ := callsA_sound hL hrec hcall
              refine ⟨_, he, g1, fun F w0 lim E w fn t k d rd' cs hl hS ht hd hrr hu => ?_⟩
              obtain ⟨args', q1, q2⟩ := aop_sound hL hS (fun x v hx => ht.ev x v hx) hr
              have hw := guard_sound ht hgd
              have s1 := Steps.one (st_op_enter (fn := fn) (k := k) (d := d) (kd := kindOf kd) (rd := rd') (cs := cs) (rest := rest) ho hw (.inr fun c hc => by obtain ⟨_, e⟩ := hnd c hc; cases e) q1)
              obtain ⟨E1, w1, v1, x1, x2, x3, x4⟩ := g2 F w0 lim E w args' ⟨fn, t, .inRegion ops (i :: rest) :: k, d, .run, kindOf kd, rd'⟩ cs hl hS q2 (fun hk => by cases hk)
              refine ⟨E1, w1, putA t o.dst v1, d, x1, s1.trans ?_, x3, (ht.mono x1.1).put x4 htm, hd.mono x1.1⟩
              rw [← fin_op ho]
              exact x2
            · cases he
          · cases he
        · -- a round
          rename_i l args
          unfold putG at he
          split at he
          · rename_i v h1 nx1 hcall
            split at he
            · rename_i tm' htm
              obtain ⟨g1, g2⟩ := roundsA_sound hL hrec hcall
              refine ⟨_, he, g1, fun F w0 lim E w fn t k d rd' cs hl hS ht hd hrr hu => ?_⟩
              obtain ⟨l', args', q1, q2, q3⟩ := aop_sound hL hS (fun x v hx => ht.ev x v hx) hr
              have hw := guard_sound ht hgd
              obtain ⟨f, ts, a, b, y1, y2⟩ := g2 F w0 lim E w l' args' hl hS q1 q2
              have s1 := Steps.one (st_op_round (fn := fn) (k := k) (d := d) (kd := kindOf kd) (rd := rd') (cs := cs) (rest := rest) ho hw (.inr fun c hc => by obtain ⟨_, e⟩ := hnd c hc; cases e) (q3.trans y1))
              obtain ⟨E1, w1, v1, x1, x2, x3, x4⟩ := y2 ⟨fn, t, .inRegion ops (i :: rest) :: k, d, .run, kindOf kd, rd'⟩ cs
              refine ⟨E1, w1, putA t o.dst v1, d, x1, s1.trans ?_, x3, (ht.mono x1.1).put x4 htm, hd.mono x1.1⟩
              rw [← fin_op ho]
              exact x2
            · cases he
          · cases he
        · -- a deferred call
          rename_i dd
          split at he
          · unfold putG at he
            simp only at he
            split at he
            · rename_i tm' htm
              refine ⟨_, he, Nat.le_refl _, fun F w0 lim E w fn t k d rd' cs hl hS ht hd hrr hu => ?_⟩
              obtain ⟨d', q1, q2⟩ := aop_sound hL hS (fun x v hx => ht.ev x v hx) hr
              have hw := guard_sound ht hgd
              cases rd' with
              | some l => exact hrr.elim
              | none => exact ⟨E, w, putA t o.dst undef, d' :: d, .refl _ _ _, Steps.one (st_op_defer ho hw q1), hS, ht.put (VR.undef E) htm, .cons q2 hd⟩
            · cases he
          · cases he
        · -- recover
          split at he
          · rename_i _ _ hrd hkd
            unfold putG at he
            simp only at he
            split at he
            · rename_i tm' htm
              refine ⟨_, he, Nat.le_refl _, fun F w0 lim E w fn t k d rd' cs hl hS ht hd hrr hu => ?_⟩
              have q1 := aop_sound hL hS (fun x v hx => ht.ev x v hx) hr
              have hw := guard_sound ht hgd
              obtain ⟨c, cs', rfl, hm⟩ := hu rfl
              cases rd' with
              | some l => exact hrr.elim
              | none => exact ⟨E, w, putA t o.dst .nilIface, d, .refl _ _ _, Steps.one (st_op_recover ho hw hm q1), hS, ht.put .nilIface htm, hd⟩
            · cases he
          · cases he
        · cases he

theorem runOps_sound (hL : LkOK P L) (hrec : Good P rec) {kd : Bool} {rd : Option Nat} {ops : Array Oper} {nt : Nat} : ∀ (l : List Oper) (i : Nat), l = ops.toList.drop i → ∀ (g g' : G), runOps P L rec kd rd ops nt l g = some g' →
    g.nx ≤ g'.nx ∧ ∀ (F : Nat → Prop) (w0 : World) (lim : Nat) (E : Env) (w : World) (fn : FuncId) (t : Array Value) (k : List Item) (d : List Deferred) (rd' : Option Nat) (cs : List Frame), g'.nx ≤ lim → Sit F w0 lim E g.h g.nx w → TmR E g.tm nt t → DefsR E g.df d → RdR E rd rd' → UpR kd cs →
      ∃ E' w' t' d', Ext E E' g.nx g'.nx ∧ Steps P (lone ⟨fn, t, .inRegion ops ((List.range ops.size).drop i) :: k, d, .run, kindOf kd, rd'⟩ cs w) (lone ⟨fn, t', .inRegion ops [] :: k, d', .run, kindOf kd, rd'⟩ cs w') ∧ Sit F w0 lim E' g'.h g'.nx w' ∧ TmR E' g'.tm nt t' ∧ DefsR E' g'.df d' := by
  intro l
  induction l with
  | nil =>
    intro i hi g g' he
    have he' : some g = some g' := he
    cases he'
    refine ⟨Nat.le_refl _, fun F w0 lim E w fn t k d rd' cs hl hS ht hd hrr hu => ⟨E, w, t, d, .refl _ _ _, ?_, hS, ht, hd⟩⟩
    have : (List.range ops.size).drop i = [] := by
      have h1 : ops.toList.length ≤ i := List.drop_eq_nil_iff.1 hi.symm
      exact List.drop_eq_nil_iff.2 (by simpa using h1)
    rw [this]
    exact Steps.refl _ _
  | cons o l ih =>
    intro i hi g g' he
    have hlt : i < ops.size := by
      rcases Nat.lt_or_ge i ops.size with h | h
      · exact h
      · rw [List.drop_eq_nil_iff.2 (by simpa using h)] at hi; cases hi
    have ho : ops[i]? = some o := by
      have : ops.toList[i]? = some o := by
        rw [← List.head?_drop, ← hi]; rfl
      simpa using this
    have hl' : l = ops.toList.drop (i + 1) := by
      rw [← List.tail_drop, ← hi]; rfl
    have hr : (List.range ops.size).drop i = i :: (List.range ops.size).drop (i + 1) := by
      rw [List.drop_eq_getElem_cons (by simpa using hlt)]; simp
    obtain ⟨tm, h, nx, df⟩ := g
    obtain ⟨dst, op, ty, ps, af, gd⟩ := o
    have he' : opA P L rec kd rd ops nt dst op gd tm h nx df (runOps P L rec kd rd ops nt l) = some g' := he
    obtain ⟨g1, q1, q2, q3⟩ := opA_sound (i := i) (rest := (List.range ops.size).drop (i + 1)) hL hrec ho he'
    obtain ⟨p1, p2⟩ := ih (i + 1) hl' g1 g' q1
    refine ⟨Nat.le_trans q2 p1, fun F w0 lim E w fn t k d rd' cs hlim hS ht hd hrr hu => ?_⟩
    obtain ⟨E1, w1, t1, d1, x1, x2, x3, x4, x5⟩ := q3 F w0 lim E w fn t k d rd' cs (Nat.le_trans p1 hlim) hS ht hd hrr hu
    obtain ⟨E2, w2, t2, d2, y1, y2, y3, y4, y5⟩ := p2 F w0 lim E1 w1 fn t1 k d1 rd' cs hlim x3 x4 x5 (hrr.mono x1.1) hu
    exact ⟨E2, w2, t2, d2, x1.trans y1 q2 p1, by rw [hr]; exact x2.trans y2, y3, y4, y5⟩
end
end Go.Proofs.Ex

namespace Go.Proofs.Ex
variable [Sg]
open Go.RowKit

theorem bytes_inj : ∀ (x y : List UInt8), (x.map (·.toNat) == y.map (·.toNat)) = true → x = y := by
  intro x
  induction x with
  | nil => intro y h; cases y with
    | nil => rfl
    | cons a l => simp at h
  | cons a l ih =>
    intro y h
    cases y with
    | nil => simp at h
    | cons b k =>
      simp only [List.map_cons, List.cons_beq_cons, Bool.and_eq_true] at h
      have h1 : a.toNat = b.toNat := by simpa using h.1
      rw [UInt8.toNat_inj.1 h1, ih k h.2]

theorem veq_sound : ∀ (n : Nat), (∀ a b : Value, veqN n a b = true → a = b) ∧ ∀ l k : List Value, veqN.veqL n l k = true → l = k := by
  have key : ∀ (n : Nat), (∀ a b : Value, veqN n a b = true → a = b) → ∀ l k : List Value, veqN.veqL n l k = true → l = k := by
    intro n h l
    induction l with
    | nil => intro k hk; cases k with
      | nil => rfl
      | cons y k => simp [veqN.veqL] at hk
    | cons x l ih =>
      intro k hk
      cases k with
      | nil => simp [veqN.veqL] at hk
      | cons y k =>
        simp only [veqN.veqL, Bool.and_eq_true] at hk
        rw [h x y hk.1, ih k hk.2]
  intro n
  induction n with
  | zero =>
    have h0 : ∀ a b : Value, veqN 0 a b = true → a = b := by intro a b h; simp [veqN] at h
    exact ⟨h0, key 0 h0⟩
  | succ n ih =>
    have hs : ∀ a b : Value, veqN (n + 1) a b = true → a = b := by
      intro a b h
      have arr : ∀ x y : Array Value, veqN.veqL n x.toList y.toList = true → x = y := fun x y e => Array.ext' (ih.2 _ _ e)
      unfold veqN at h
      split at h
      · simp at h; subst h; rfl
      · simp only [Bool.and_eq_true] at h
        have h1 := eq_of_beq h.1
        have h2 := Nat.eq_of_beq_eq_true h.2
        subst h1 h2; rfl
      · simp only [Bool.and_eq_true] at h
        have h1 := eq_of_beq h.1
        have h2 := Nat.eq_of_beq_eq_true h.2
        subst h1 h2; rfl
      · rename_i x y
        have := bytes_inj _ _ h
        obtain ⟨x⟩ := x; obtain ⟨y⟩ := y
        have := Array.ext' this
        simp only at this
        subst this; rfl
      · rfl
      · simp only [Bool.and_eq_true] at h
        have h1 := Nat.eq_of_beq_eq_true h.1
        have h2 := Nat.eq_of_beq_eq_true h.2
        subst h1 h2; rfl
      · simp only [Bool.and_eq_true] at h
        have h1 := Nat.eq_of_beq_eq_true h.1
        have h2 := Nat.eq_of_beq_eq_true h.2
        subst h1 h2; rfl
      · simp only [Bool.and_eq_true] at h
        have h1 := Nat.eq_of_beq_eq_true h.1.1.1
        have h2 := Nat.eq_of_beq_eq_true h.1.1.2
        have h3 := Nat.eq_of_beq_eq_true h.1.2
        have h4 := Nat.eq_of_beq_eq_true h.2
        subst h1 h2 h3 h4; rfl
      · rfl
      · have h1 := Nat.eq_of_beq_eq_true h
        subst h1; rfl
      · rfl
      · rfl
      · simp only [Bool.and_eq_true] at h
        have h1 := Nat.eq_of_beq_eq_true h.1.1
        rw [arr _ _ h.1.2, arr _ _ h.2]
        subst h1; rfl
      · simp only [Bool.and_eq_true] at h
        have h1 := Nat.eq_of_beq_eq_true h.1
        rw [ih.1 _ _ h.2]
        subst h1; rfl
      · rw [arr _ _ h]
      · have h1 := Nat.eq_of_beq_eq_true h
        subst h1; rfl
      · simp only [Bool.and_eq_true] at h
        have h1 := Nat.eq_of_beq_eq_true h.1
        have h2 := Nat.eq_of_beq_eq_true h.2
        subst h1 h2; rfl
      · have h1 := Nat.eq_of_beq_eq_true h
        subst h1; rfl
      · cases h
    exact ⟨hs, key (n + 1) hs⟩

section
variable {P : Program} {L : Lk} {tm tm' : Tr Value} {h : Tr AO} {nx : Nat}

theorem ev_congr {x : Operand} (ha : ∀ t, x = .tmp t → tm.get t = tm'.get t) : ev tm x = ev tm' x := by
  cases x with
  | tmp t => simp only [ev]; rw [ha t rfl]
  | _ => rfl

def Agree (tm tm' : Tr Value) (l : List Operand) : Prop := ∀ t, Operand.tmp t ∈ l → tm.get t = tm'.get t
theorem Agree.ev {l : List Operand} (ha : Agree tm tm' l) {x : Operand} (hx : x ∈ l) : Ex.ev tm x = Ex.ev tm' x := ev_congr fun t e => ha t (by rw [← e]; exact hx)
theorem Agree.sub {l k : List Operand} (ha : Agree tm tm' l) (hk : ∀ x ∈ k, x ∈ l) : Agree tm tm' k := fun t ht => ha t (hk _ ht)
theorem evs_congr : ∀ (l : List Operand), Agree tm tm' l → evs tm l = evs tm' l := by
  intro l
  induction l with
  | nil => intro _; rfl
  | cons x l ih =>
    intro ha
    simp only [evs]
    rw [ha.ev (by simp), ih (ha.sub fun y hy => by simp [hy])]
theorem evp_congr : ∀ (l : List (Nat × Operand)), Agree tm tm' (l.map (·.2)) → evp tm l = evp tm' l := by
  intro l
  induction l with
  | nil => intro _; rfl
  | cons x l ih =>
    obtain ⟨i, x⟩ := x
    intro ha
    simp only [evp]
    rw [ha.ev (x := x) (by simp), ih (ha.sub fun y hy => by simp at hy ⊢; exact .inr hy)]
theorem evo_congr (x : Option Operand) (ha : Agree tm tm' x.toList) : evo tm x = evo tm' x := by
  cases x with
  | none => rfl
  | some x => simp only [evo]; rw [ha.ev (by simp)]

theorem aop0_congr (op : Op) (ha : Agree tm tm' op.operands.toList) : aop0 P L tm h nx op = aop0 P L tm' h nx op := by
  have one : ∀ {x : Operand}, x ∈ op.operands.toList → ev tm x = ev tm' x := fun hx => ha.ev hx
  cases op with
  | call c =>
    obtain ⟨ce, as, ts⟩ := c
    simp only [aop0, aCall]
    have h1 : evs tm as.toList = evs tm' as.toList := evs_congr _ (ha.sub fun y hy => by simp [Op.operands, Call.operands]; exact .inr (by simpa using hy))
    rw [h1]
    cases ce with
    | value f => simp only; rw [show ev tm f = ev tm' f from one (by simp [Op.operands, Call.operands])]
    | _ => rfl
  | defer c =>
    obtain ⟨ce, as, ts⟩ := c
    simp only [aop0, aDefer]
    have h1 : evs tm as.toList = evs tm' as.toList := evs_congr _ (ha.sub fun y hy => by simp [Op.operands, Call.operands]; exact .inr (by simpa using hy))
    rw [h1]
    cases ce with
    | value f => simp only; rw [show ev tm f = ev tm' f from one (by simp [Op.operands, Call.operands])]
    | _ => rfl
  | build t ps =>
    simp only [aop0, aBuild]
    rw [evp_congr ps.toList (ha.sub fun y hy => by simpa [Op.operands] using hy)]
  | buildSlice t n ps =>
    simp only [aop0, aBuildSlice]
    rw [evp_congr ps.toList (ha.sub fun y hy => by simpa [Op.operands] using hy)]
  | makeFunc fn a b =>
    simp only [aop0, aFunc]
    rw [evs_congr a.toList (ha.sub fun y hy => by simp [Op.operands]; exact .inl (by simpa using hy)), evs_congr b.toList (ha.sub fun y hy => by simp [Op.operands]; exact .inr (by simpa using hy))]
  | slice t x lo hi mx =>
    simp only [aop0, aSlice]
    rw [show ev tm x = ev tm' x from one (by simp [Op.operands]), evo_congr lo (ha.sub fun y hy => by simp [Op.operands] at hy ⊢; simp [hy]), evo_congr hi (ha.sub fun y hy => by simp [Op.operands] at hy ⊢; simp [hy]),
      evo_congr mx (ha.sub fun y hy => by simp [Op.operands] at hy ⊢; simp [hy])]
  | makeMap t r => cases r <;> rfl
  | next x s => cases s with
    | true => simp only [aop0, aNext]; rw [show ev tm x = ev tm' x from one (by simp [Op.operands])]
    | false => rfl
  | move x => simp only [aop0, aMove]; rw [show ev tm x = ev tm' x from one (by simp [Op.operands])]
  | assign x => simp only [aop0, aMove]; rw [show ev tm x = ev tm' x from one (by simp [Op.operands])]
  | pick c a b => simp only [aop0, aPick]; rw [show ev tm c = ev tm' c from one (by simp [Op.operands]), show ev tm a = ev tm' a from one (by simp [Op.operands]), show ev tm b = ev tm' b from one (by simp [Op.operands])]
  | alloc e => rfl
  | box e x => simp only [aop0, aBox]; rw [show ev tm x = ev tm' x from one (by simp [Op.operands])]
  | load t a => simp only [aop0, aLoad]; rw [show ev tm a = ev tm' a from one (by simp [Op.operands])]
  | store t a x => simp only [aop0, aStore]; rw [show ev tm a = ev tm' a from one (by simp [Op.operands]), show ev tm x = ev tm' x from one (by simp [Op.operands])]
  | nilCheck x => simp only [aop0, aNil]; rw [show ev tm x = ev tm' x from one (by simp [Op.operands])]
  | binOp o t x y yt => simp only [aop0, aBin]; rw [show ev tm x = ev tm' x from one (by simp [Op.operands]), show ev tm y = ev tm' y from one (by simp [Op.operands])]
  | unOp o t x => simp only [aop0, aUn]; rw [show ev tm x = ev tm' x from one (by simp [Op.operands])]
  | convert s d x => simp only [aop0, aConv]; rw [show ev tm x = ev tm' x from one (by simp [Op.operands])]
  | makeInterface t x => simp only [aop0, aIface]; rw [show ev tm x = ev tm' x from one (by simp [Op.operands])]
  | makeSlice t l c => simp only [aop0, aMakeSlice]; rw [show ev tm l = ev tm' l from one (by simp [Op.operands]), show ev tm c = ev tm' c from one (by simp [Op.operands])]
  | fieldAddr s x f => simp only [aop0, aFieldAddr]; rw [show ev tm x = ev tm' x from one (by simp [Op.operands])]
  | field t x f => simp only [aop0, aField]; rw [show ev tm x = ev tm' x from one (by simp [Op.operands])]
  | indexAddr t x i => simp only [aop0, aIndexAddr]; rw [show ev tm x = ev tm' x from one (by simp [Op.operands]), show ev tm i = ev tm' i from one (by simp [Op.operands])]
  | index t x i => simp only [aop0, aIndex]; rw [show ev tm x = ev tm' x from one (by simp [Op.operands]), show ev tm i = ev tm' i from one (by simp [Op.operands])]
  | lookup t x k ok => simp only [aop0, aLookup]; rw [show ev tm x = ev tm' x from one (by simp [Op.operands]), show ev tm k = ev tm' k from one (by simp [Op.operands])]
  | mapUpdate t m k x => simp only [aop0, aUpdate]; rw [show ev tm m = ev tm' m from one (by simp [Op.operands]), show ev tm k = ev tm' k from one (by simp [Op.operands]), show ev tm x = ev tm' x from one (by simp [Op.operands])]
  | insert t m k x => simp only [aop0, aUpdate]; rw [show ev tm m = ev tm' m from one (by simp [Op.operands]), show ev tm k = ev tm' k from one (by simp [Op.operands]), show ev tm x = ev tm' x from one (by simp [Op.operands])]
  | typeAssert x a b ok => simp only [aop0, aAssert]; rw [show ev tm x = ev tm' x from one (by simp [Op.operands])]
  | extract t i => simp only [aop0, aExtract]; rw [show ev tm t = ev tm' t from one (by simp [Op.operands])]
  | range t x => simp only [aop0, aRange]; rw [show ev tm x = ev tm' x from one (by simp [Op.operands])]
  | _ => rfl

theorem symA_congr (op : Op) (ha : Agree tm tm' op.operands.toList) : symA L tm h nx op = symA L tm' h nx op := by
  have one : ∀ {x : Operand}, x ∈ op.operands.toList → ev tm x = ev tm' x := fun hx => ha.ev hx
  cases op with
  | call c =>
    obtain ⟨ce, as, ts⟩ := c
    have h1 : evs tm as.toList = evs tm' as.toList := evs_congr _ (ha.sub fun y hy => by simp [Op.operands, Call.operands]; exact .inr (by simpa using hy))
    cases ce with
    | builtin b => cases b <;> simp only [symA, h1]
    | _ => rfl
  | binOp o t x y yt => simp only [symA]; rw [show ev tm x = ev tm' x from one (by simp [Op.operands]), show ev tm y = ev tm' y from one (by simp [Op.operands])]
  | unOp o t x => simp only [symA]; rw [show ev tm x = ev tm' x from one (by simp [Op.operands])]
  | convert s d x => simp only [symA]; rw [show ev tm x = ev tm' x from one (by simp [Op.operands])]
  | _ => rfl

theorem aop_congr (op : Op) (ha : Agree tm tm' op.operands.toList) : aop P L tm h nx op = aop P L tm' h nx op := by
  unfold aop
  rw [aop0_congr op ha, symA_congr op ha]

theorem guardOf_congr {ops : Array Oper} {g : Option (Nat × Bool)} (ha : ∀ j b oj d, g = some (j, b) → ops[j]? = some oj → oj.dst = some d → tm.get d = tm'.get d) : guardOf tm ops g = guardOf tm' ops g := by
  unfold guardOf
  split
  · rfl
  · rename_i j want
    split
    · rename_i oj hj
      split
      · rename_i d hd
        rw [ha j want oj d rfl hj hd]
      · rfl
    · rfl
end

def Sub (a b : Tr AO) : Prop := ∀ id o, a.get id = some o → b.get id = some o

theorem Sit.sub {F : Nat → Prop} {w0 : World} {lim : Nat} {E : Env} {h hs : Tr AO} {nx : Nat} {w : World} (hS : Sit F w0 lim E h nx w) (hsub : Sub hs h) {a b : Nat} (hf : ∀ id, a ≤ id → id < b → E.ρ id = none ∧ E.κ id = none) :
    Sit (fun k => F k ∨ ∃ id o, h.get id = some o ∧ hs.get id = none ∧ E.ρ id = some k) w b E hs a w :=
  ⟨fun id o hg => hS.hr id o (hsub id o hg), fun i j oi oj c hi hj p q => hS.inj i j oi oj c (hsub _ _ hi) (hsub _ _ hj) p q, rfl, rfl, rfl,
   fun k hk => by
    rcases hk with hk | ⟨id, o, h1, h2, h3⟩
    · exact ⟨(hS.keeps k hk).1, rfl⟩
    · obtain ⟨b', o', e1, e2, _⟩ := hS.hr id o h1
      rw [h3] at e1; cases e1
      exact ⟨(Array.getElem?_eq_some_iff.1 e2).1, rfl⟩,
   fun id o c hg hc hk => (by
    rcases hk with hk | ⟨id2, o2, h1, h2, h3⟩
    · exact hS.away id o c (hsub _ _ hg) hc hk
    · have := hS.inj id id2 o o2 c (hsub _ _ hg) h1 hc h3
      subst this
      rw [h2] at hg; cases hg), hf, Sg.mono hS.gr (fun k h => .inl h) (fun k h => (hS.keeps k h).2)⟩

theorem Sit.rejoin {F : Nat → Prop} {w0 : World} {lim : Nat} {E E1 : Env} {h hs h1 hk1 : Tr AO} {nx a b n1 : Nat} {w w1 : World} (hS : Sit F w0 lim E h nx w) (hle : E.le E1)
    (hS1 : Sit (fun k => F k ∨ ∃ id o, h.get id = some o ∧ hs.get id = none ∧ E.ρ id = some k) w b E1 h1 n1 w1)
    (hk : ∀ id o, hk1.get id = some o → h1.get id = some o ∨ (h.get id = some o ∧ hs.get id = none)) {m : Nat} (hf : ∀ id, m ≤ id → id < lim → E1.ρ id = none ∧ E1.κ id = none) : Sit F w0 lim E1 hk1 m w1 := by
  have old : ∀ id o, h.get id = some o → hs.get id = none → ∃ c o', E1.ρ id = some c ∧ w1.heap[c]? = some o' ∧ ObjR E1 o o' ∧ E.ρ id = some c := by
    intro id o hg hn
    obtain ⟨c, o', e1, e2, e3⟩ := hS.hr id o hg
    refine ⟨c, o', hle.1 _ _ e1, ?_, e3.mono hle, e1⟩
    rw [(hS1.keeps c (.inr ⟨id, o, hg, hn, e1⟩)).2]
    exact e2
  refine ⟨fun id o hg => ?_, fun i j oi oj c hi hj p q => ?_, hS1.os.trans hS.os, hS1.tape.trans hS.tape, hS1.output.trans hS.output, fun k hF => ?_, fun id o c hg hc hF => ?_, hf, hS.gr⟩
  · rcases hk id o hg with h' | ⟨h', hn⟩
    · exact hS1.hr id o h'
    · obtain ⟨c, o', e1, e2, e3, _⟩ := old id o h' hn
      exact ⟨c, o', e1, e2, e3⟩
  · rcases hk i oi hi with hi' | ⟨hi', hin⟩
    · rcases hk j oj hj with hj' | ⟨hj', hjn⟩
      · exact hS1.inj i j oi oj c hi' hj' p q
      · obtain ⟨c', o', e1, e2, e3, e4⟩ := old j oj hj' hjn
        rw [q] at e1; cases e1
        exact absurd (.inr ⟨j, oj, hj', hjn, e4⟩) (hS1.away i oi c hi' p)
    · rcases hk j oj hj with hj' | ⟨hj', hjn⟩
      · obtain ⟨c', o', e1, e2, e3, e4⟩ := old i oi hi' hin
        rw [p] at e1; cases e1
        exact absurd (.inr ⟨i, oi, hi', hin, e4⟩) (hS1.away j oj c hj' q)
      · obtain ⟨c1, o1, a1, a2, a3, a4⟩ := old i oi hi' hin
        obtain ⟨c2, o2, b1, b2, b3, b4⟩ := old j oj hj' hjn
        rw [p] at a1; cases a1
        rw [q] at b1; cases b1
        exact hS.inj i j oi oj c hi' hj' a4 b4
  · obtain ⟨p, q⟩ := hS1.keeps k (.inl hF)
    exact ⟨p, q.trans (hS.keeps k hF).2⟩
  · rcases hk id o hg with h' | ⟨h', hn⟩
    · exact hS1.away id o c h' hc (.inl hF)
    · obtain ⟨c', o', e1, e2, e3, e4⟩ := old id o h' hn
      rw [hc] at e1; cases e1
      exact hS.away id o c h' e4 hF
end Go.Proofs.Ex

namespace Go.Proofs.Ex
variable [Sg]
open Go.RowKit

inductive DK where
  | skip | pure | new (ob : AO) | load (t : TypeId) (av : Value) | eff

noncomputable def resOf (L : Lk) (rec : S → Option S) (h : Tr AO) (nx : Nat) : R → Option (Value × Tr AO × Nat)
  | .val v h1 n => some (v, h1, n)
  | .enter f args => callsA L rec h nx f args false
  | .round l args => roundsA L rec h nx l args
  | _ => none

def Same (s s' : DS) : Prop := s'.h = s.h ∧ s'.fl = s.fl ∧ s'.hist = s.hist ∧ s'.lds = s.lds

noncomputable def effH (ms : List Nat) (i : Nat) (s : DS) : Tr AO := setFl s.h (s.fl.filter (fun x => (ms.getD i 0).testBit x.1))

def DStep (P : Program) (L : Lk) (rec : S → Option S) (ops : Array Oper) (ms : List Nat) (nt : Nat) (i : Nat) (o : Oper) (s s' : DS) (v : Value) : DK → Prop
  | .skip => putT s.tm nt o.dst v = some s'.tm ∧ guardOf s.tm ops o.guard = some false ∧ v = undef ∧ s'.nx = s.nx ∧ Same s s'
  | .pure => putT s.tm nt o.dst v = some s'.tm ∧ guardOf s.tm ops o.guard = some true ∧ (∃ h1, aop P L s.tm .nil s.nx o.op = some (.val v h1 s.nx)) ∧ s'.nx = s.nx ∧ Same s s'
  | .new ob => putT s.tm nt o.dst v = some s'.tm ∧ guardOf s.tm ops o.guard = some true ∧ (∃ h1, aop P L s.tm .nil s.nx o.op = some (.val v h1 (s.nx + 1)) ∧ h1.get s.nx = some ob) ∧ s'.nx = s.nx + 1 ∧
      s'.h = s.h ∧ s'.fl = (i, s.nx, ob) :: s.fl ∧ s'.hist = s.hist ∧ s'.lds = s.lds
  | .load t av => putT s.tm nt o.dst v = some s'.tm ∧ guardOf s.tm ops o.guard = some true ∧ (∃ a, o.op = .load t a ∧ ev s.tm a = some av) ∧ loadA L s.h t av = some v ∧
      (∀ j hb, (j, hb) ∈ s.hist → (ms.getD i 0).testBit j = true ∨ loadA L hb t av = some v) ∧ s'.nx = s.nx ∧ s'.h = s.h ∧ s'.fl = s.fl ∧ s'.hist = s.hist ∧ s'.lds = (i, t, av, v) :: s.lds
  | .eff => putT s.tm nt o.dst v = some s'.tm ∧ guardOf s.tm ops o.guard = some true ∧ (∀ j hb rest, s.hist = (j, hb) :: rest → (ms.getD i 0).testBit j = true) ∧
      (∀ x ∈ s.fl, (ms.getD i 0).testBit x.1 = true ∨ (effH ms i s).get x.2.1 = none) ∧
      (∃ r, aop P L s.tm (effH ms i s) s.nx o.op = some r ∧ resOf L rec (effH ms i s) s.nx r = some (v, s'.h, s'.nx)) ∧
      (∀ j t a u, (j, t, a, u) ∈ s.lds → (ms.getD i 0).testBit j = true ∨ loadA L s'.h t a = some u) ∧
      s'.fl = s.fl.filter (fun x => !(ms.getD i 0).testBit x.1) ∧ s'.hist = (i, s.h) :: s.hist ∧ s'.lds = s.lds

section
variable {P : Program} {L : Lk} {rec : S → Option S} {ops : Array Oper} {ms : List Nat} {nt : Nat}

theorem cond_some {α : Type} {c : Bool} {x : Option α} {y : α} (h : cond c x none = some y) : c = true ∧ x = some y := by
  cases c with
  | true => exact ⟨rfl, h⟩
  | false => cases h

theorem putD_inv {dst : Option Tmp} {s : DS} {k : DS → Option DS} {v : Value} {fin : DS} (he : putD nt dst s k v = some fin) : ∃ tm', putT s.tm nt dst v = some tm' ∧ k ⟨tm', s.h, s.nx, s.fl, s.hist, s.lds⟩ = some fin := by
  obtain ⟨tm, h, nx, fl, hist, lds⟩ := s
  simp only [putD] at he
  split at he
  · rename_i tm' h1; exact ⟨tm', h1, he⟩
  · cases he

theorem loadsAs_sound {h : Tr AO} {t : TypeId} {a v : Value} (he : loadsAs L h t a v = true) : loadA L h t a = some v := by
  unfold loadsAs at he
  split at he
  · rename_i u hu; rw [hu, (veq_sound 6).1 _ _ he]
  · cases he

theorem noneAt_sound {h : Tr AO} {id : Nat} (he : noneAt h id = true) : h.get id = none := by
  unfold noneAt at he
  split at he
  · assumption
  · cases he

theorem drawBack_inv {dst : Option Tmp} {i : Nat} {tm : Tr Value} {h : Tr AO} {nx : Nat} {fl : List (Nat × Nat × AO)} {hist : List (Nat × Tr AO)} {lds : List (Nat × TypeId × Value × Value)} {mask : Nat} {k : DS → Option DS} {r : Option (Value × Tr AO × Nat)} {fin : DS}
    (he : drawBack L nt dst i mask ⟨tm, h, nx, fl, hist, lds⟩ k r = some fin) : ∃ v h1 n tm', r = some (v, h1, n) ∧ (∀ j t a u, (j, t, a, u) ∈ lds → mask.testBit j = true ∨ loadA L h1 t a = some u) ∧ putT tm nt dst v = some tm' ∧
      k ⟨tm', h1, n, fl.filter (fun x => !mask.testBit x.1), (i, h) :: hist, lds⟩ = some fin := by
  cases r with
  | none => simp [drawBack] at he
  | some q =>
    obtain ⟨v, h1, n⟩ := q
    simp only [drawBack] at he
    cases hc : (lds.all fun (j, t, a, u) => mask.testBit j || loadsAs L h1 t a u) with
    | false => rw [hc] at he; cases he
    | true =>
      rw [hc] at he
      simp only [cond_true] at he
      obtain ⟨tm', h2, h3⟩ := putD_inv he
      refine ⟨v, h1, n, tm', rfl, fun j t a u hm => ?_, h2, h3⟩
      have := List.all_eq_true.1 hc (j, t, a, u) hm
      simp only [Bool.or_eq_true] at this
      exact this.imp id loadsAs_sound

theorem drawOp_inv {o : Oper} {i : Nat} {s fin : DS} {k : DS → Option DS} (hg : guardOf s.tm ops o.guard = some true) (he : drawOp P L rec nt o.dst o.op i (ms.getD i 0) s k = some fin) :
    ∃ s' v T, DStep P L rec ops ms nt i o s s' v T ∧ k s' = some fin := by
  obtain ⟨tm, h, nx, fl, hist, lds⟩ := s
  simp only at hg
  unfold drawOp at he
  split at he
  · -- nothing but a value
    simp only [drawPure] at he
    split at he
    · rename_i v h1 n ha
      obtain ⟨hb, he⟩ := cond_some he
      have : n = nx := Nat.eq_of_beq_eq_true hb
      subst this
      obtain ⟨tm', h2, h3⟩ := putD_inv he
      refine ⟨_, v, .pure, ?_, h3⟩
      exact ⟨h2, hg, ⟨h1, ha⟩, rfl, rfl, rfl, rfl, rfl⟩
    · cases he
  · simp only [drawNew] at he
    split at he
    · rename_i v h1 n ha
      split at he
      · rename_i ob hob
        obtain ⟨hb, he⟩ := cond_some he
        have : n = nx + 1 := Nat.eq_of_beq_eq_true hb
        subst this
        obtain ⟨tm', h2, h3⟩ := putD_inv he
        refine ⟨_, v, .new ob, ?_, h3⟩
        exact ⟨h2, hg, ⟨h1, ha, hob⟩, rfl, rfl, rfl, rfl, rfl⟩
      · cases he
    · cases he
  · split at he
    · rename_i t a hop
      simp only [drawLoad] at he
      split at he
      · rename_i av hav
        split at he
        · rename_i v hv
          obtain ⟨hc, he⟩ := cond_some he
          obtain ⟨tm', h2, h3⟩ := putD_inv he
          refine ⟨_, v, .load t av, ?_, h3⟩
          refine ⟨h2, hg, ⟨a, hop, hav⟩, hv, fun j hb hm => ?_, rfl, rfl, rfl, rfl, rfl⟩
          have := List.all_eq_true.1 hc (j, hb) hm
          simp only [Bool.or_eq_true] at this
          exact this.imp id loadsAs_sound
        · cases he
      · cases he
    · cases he
  · simp only [drawEff] at he
    obtain ⟨hc, he⟩ := cond_some he
    rw [Bool.and_eq_true] at hc
    have c1 : ∀ j hb rest, hist = (j, hb) :: rest → (ms.getD i 0).testBit j = true := by
      intro j hb rest e; subst e; exact hc.1
    have c2 : ∀ x ∈ fl, (ms.getD i 0).testBit x.1 = true ∨ (effH ms i ⟨tm, h, nx, fl, hist, lds⟩).get x.2.1 = none := by
      intro x hx
      have := List.all_eq_true.1 hc.2 x hx
      simp only [Bool.or_eq_true] at this
      exact this.imp id noneAt_sound
    have done : ∀ {r : R} {q : Option (Value × Tr AO × Nat)}, aop P L tm (effH ms i ⟨tm, h, nx, fl, hist, lds⟩) nx o.op = some r → resOf L rec (effH ms i ⟨tm, h, nx, fl, hist, lds⟩) nx r = q →
        drawBack L nt o.dst i (ms.getD i 0) ⟨tm, h, nx, fl, hist, lds⟩ k q = some fin → ∃ s' v T, DStep P L rec ops ms nt i o ⟨tm, h, nx, fl, hist, lds⟩ s' v T ∧ k s' = some fin := by
      intro r q ha hq hb
      obtain ⟨v, h1, n, tm', e1, e2, e3, e4⟩ := drawBack_inv hb
      subst e1
      refine ⟨_, v, .eff, ?_, e4⟩
      exact ⟨e3, hg, c1, c2, ⟨r, ha, hq⟩, e2, rfl, rfl, rfl⟩
    split at he
    · rename_i v h1 n ha; exact done ha rfl he
    · rename_i f args ha; exact done ha rfl he
    · rename_i l args ha; exact done ha rfl he
    · cases he
  · cases he

theorem drawOps_inv : ∀ (l : List Oper) (i : Nat) (s fin : DS), drawOps P L rec ops ms nt l i s = some fin →
    ∃ (D : Nat → DS) (V : Nat → Value) (T : Nat → DK), D i = s ∧ D (i + l.length) = fin ∧ ∀ j o, l[j]? = some o → DStep P L rec ops ms nt (i + j) o (D (i + j)) (D (i + j + 1)) (V (i + j)) (T (i + j)) := by
  intro l
  induction l with
  | nil =>
    intro i s fin he
    have he' : some s = some fin := he
    cases he'
    exact ⟨fun _ => s, fun _ => undef, fun _ => .skip, rfl, rfl, fun j o hj => by simp at hj⟩
  | cons o l ih =>
    intro i s fin he
    obtain ⟨dst, op, ty, ps, af, gd⟩ := o
    obtain ⟨tm, h, nx, fl, hist, lds⟩ := s
    have he' : (match guardOf tm ops gd with
      | none => none
      | some b => cond b (drawOp P L rec nt dst op i (ms.getD i 0) ⟨tm, h, nx, fl, hist, lds⟩ (drawOps P L rec ops ms nt l (i + 1))) (putD nt dst ⟨tm, h, nx, fl, hist, lds⟩ (drawOps P L rec ops ms nt l (i + 1)) undef)) = some fin := he
    have one : ∃ s' v T, DStep P L rec ops ms nt i ⟨dst, op, ty, ps, af, gd⟩ ⟨tm, h, nx, fl, hist, lds⟩ s' v T ∧ drawOps P L rec ops ms nt l (i + 1) s' = some fin := by
      split at he'
      · cases he'
      · rename_i b hg
        cases b with
        | true => exact drawOp_inv (o := ⟨dst, op, ty, ps, af, gd⟩) hg he'
        | false =>
          simp only [cond_false] at he'
          obtain ⟨tm', h2, h3⟩ := putD_inv he'
          refine ⟨_, undef, .skip, ?_, h3⟩
          exact ⟨h2, hg, rfl, rfl, rfl, rfl, rfl, rfl⟩
    obtain ⟨s', v, T0, hs, hrest⟩ := one
    obtain ⟨D, V, T, d1, d2, d3⟩ := ih (i + 1) s' fin hrest
    refine ⟨fun j => if j = i then ⟨tm, h, nx, fl, hist, lds⟩ else D j, fun j => if j = i then v else V j, fun j => if j = i then T0 else T j, by simp, ?_, fun j o hj => ?_⟩
    · simp only [List.length_cons]
      rw [if_neg (by omega), show i + (l.length + 1) = i + 1 + l.length by omega]
      exact d2
    · cases j with
      | zero =>
        simp only [List.getElem?_cons_zero, Option.some.injEq] at hj
        subst hj
        simp only [Nat.add_zero, if_true]
        rw [if_neg (by omega), d1]
        exact hs
      | succ j =>
        have := d3 j o (by simpa using hj)
        rw [show i + (j + 1) = i + 1 + j by omega]
        simp only [show ¬ (i + 1 + j = i) by omega, show ¬ (i + 1 + j + 1 = i) by omega, if_false]
        exact this
end
end Go.Proofs.Ex

namespace Go.Proofs.Ex
variable [Sg]
open Go.RowKit

def isEff (T : Nat → DK) (k : Nat) : Prop := match T k with | .eff => True | _ => False
theorem isEff_iff {T : Nat → DK} {k : Nat} : isEff T k ↔ T k = .eff := by
  unfold isEff
  split
  · rename_i h; simp [h]
  · rename_i h; exact ⟨fun x => x.elim, fun e => h e⟩

section
variable {P : Program} {L : Lk} {rec : S → Option S} {ops : Array Oper} {ms : List Nat} {nt : Nat} {D : Nat → DS} {V : Nat → Value} {T : Nat → DK}

theorem resOf_mono (hL : LkOK P L) (hrec : Good P rec) {h h1 h0 : Tr AO} {tm : Tr Value} {nx n : Nat} {op : Op} {r : R} {v : Value} (ha : aop P L tm h0 nx op = some r) (he : resOf L rec h nx r = some (v, h1, n)) : nx ≤ n := by
  cases r with
  | val v2 h2 n2 =>
    simp only [resOf, Option.some.injEq, Prod.mk.injEq] at he
    obtain ⟨rfl, rfl, rfl⟩ := he
    exact aop_mono ha
  | enter f args => exact (callsA_sound hL hrec he).1
  | round l args => exact (roundsA_sound hL hrec he).1
  | defer d => cases he
  | recover => cases he
  | panic v => cases he

theorem step_nx (hL : LkOK P L) (hrec : Good P rec) {i : Nat} {o : Oper} {s s' : DS} {v : Value} {t : DK} (h : DStep P L rec ops ms nt i o s s' v t) : s.nx ≤ s'.nx := by
  cases t with
  | skip => exact Nat.le_of_eq h.2.2.2.1.symm
  | pure => exact Nat.le_of_eq h.2.2.2.1.symm
  | new ob => rw [h.2.2.2.1]; omega
  | load t av => rw [h.2.2.2.2.2.1]; exact Nat.le_refl _
  | eff =>
    obtain ⟨r, h1, h2⟩ := h.2.2.2.2.1
    exact resOf_mono hL hrec h1 h2

theorem step_put {i : Nat} {o : Oper} {s s' : DS} {v : Value} {t : DK} (h : DStep P L rec ops ms nt i o s s' v t) : putT s.tm nt o.dst v = some s'.tm := by
  cases t <;> exact h.1

theorem putT_get {tm tm' : Tr Value} {dst : Option Tmp} {v : Value} (h : putT tm nt dst v = some tm') (d : Nat) : (dst = some d → tm'.get d = some v) ∧ (dst ≠ some d → tm'.get d = tm.get d) := by
  unfold putT at h
  cases dst with
  | none => cases h; exact ⟨fun e => (by cases e), fun _ => rfl⟩
  | some x =>
    simp only at h
    cases hb : Nat.blt x nt with
    | false => rw [hb] at h; cases h
    | true =>
      rw [hb] at h
      cases h
      refine ⟨fun e => ?_, fun e => ?_⟩
      · cases e; rw [Tr.get_set, if_pos rfl]
      · rw [Tr.get_set, if_neg (fun h => e (by rw [h]))]

theorem putT_other {tm tm' tm2 : Tr Value} {dst : Option Tmp} {v : Value} (h : putT tm nt dst v = some tm') : ∃ tm3, putT tm2 nt dst v = some tm3 := by
  unfold putT at h ⊢
  cases dst with
  | none => exact ⟨_, rfl⟩
  | some x =>
    simp only at h ⊢
    cases hb : Nat.blt x nt with
    | false => rw [hb] at h; cases h
    | true => exact ⟨_, rfl⟩

theorem step_heap {i : Nat} {o : Oper} {s s' : DS} {v : Value} {t : DK} (h : DStep P L rec ops ms nt i o s s' v t) (hn : t ≠ .eff) : s'.h = s.h ∧ s'.hist = s.hist := by
  cases t with
  | skip => exact ⟨h.2.2.2.2.1, h.2.2.2.2.2.2.1⟩
  | pure => exact ⟨h.2.2.2.2.1, h.2.2.2.2.2.2.1⟩
  | new ob => exact ⟨h.2.2.2.2.1, h.2.2.2.2.2.2.1⟩
  | load t av => exact ⟨h.2.2.2.2.2.2.1, h.2.2.2.2.2.2.2.2.1⟩
  | eff => exact absurd rfl hn

variable (hD : ∀ j o, ops[j]? = some o → DStep P L rec ops ms nt j o (D j) (D (j + 1)) (V j) (T j))
include hD

theorem nx_mono (hL : LkOK P L) (hrec : Good P rec) {i : Nat} : ∀ j, i ≤ j → j ≤ ops.size → (D i).nx ≤ (D j).nx := by
  intro j
  induction j with
  | zero => intro h _; have : i = 0 := by omega
            subst this; exact Nat.le_refl _
  | succ j ih =>
    intro h h2
    by_cases he : i = j + 1
    · subst he; exact Nat.le_refl _
    · have hlt : j < ops.size := by omega
      have ho : ops[j]? = some ops[j] := by simp [hlt]
      exact Nat.le_trans (ih (by omega) (by omega)) (step_nx hL hrec (hD j _ ho))

theorem tm_same {i d : Nat} : ∀ j, i ≤ j → j ≤ ops.size → (∀ k o, i ≤ k → k < j → ops[k]? = some o → o.dst ≠ some d) → (D j).tm.get d = (D i).tm.get d := by
  intro j
  induction j with
  | zero => intro h _ _; have : i = 0 := by omega
            subst this; rfl
  | succ j ih =>
    intro h h2 hk
    by_cases he : i = j + 1
    · subst he; rfl
    · have hlt : j < ops.size := by omega
      have ho : ops[j]? = some ops[j] := by simp [hlt]
      rw [(putT_get (step_put (hD j _ ho)) d).2 (hk j _ (by omega) (by omega) ho)]
      exact ih (by omega) (by omega) fun k o a b c => hk k o a (by omega) c

theorem tm_put {k d : Nat} {o : Oper} (ho : ops[k]? = some o) (hd : o.dst = some d) : (D (k + 1)).tm.get d = some (V k) := (putT_get (step_put (hD k _ ho)) d).1 hd

theorem h_same {i : Nat} : ∀ j, i ≤ j → j ≤ ops.size → (∀ k, i ≤ k → k < j → ¬ isEff T k) → (D j).h = (D i).h := by
  intro j
  induction j with
  | zero => intro h _ _; have : i = 0 := by omega
            subst this; rfl
  | succ j ih =>
    intro h h2 hk
    by_cases he : i = j + 1
    · subst he; rfl
    · have hlt : j < ops.size := by omega
      have ho : ops[j]? = some ops[j] := by simp [hlt]
      rw [(step_heap (hD j _ ho) (fun e => hk j (by omega) (by omega) (isEff_iff.2 e))).1]
      exact ih (by omega) (by omega) fun k a b => hk k a (by omega)

theorem hist_mem {e : Nat} (he : isEff T e) : ∀ j, e < j → j ≤ ops.size → (e, (D e).h) ∈ (D j).hist := by
  intro j
  induction j with
  | zero => intro h; omega
  | succ j ih =>
    intro h h2
    have hlt : j < ops.size := by omega
    have ho : ops[j]? = some ops[j] := by simp [hlt]
    have hs := hD j _ ho
    by_cases hj : isEff T j
    · rw [isEff_iff.1 hj] at hs
      rw [hs.2.2.2.2.2.2.2.1]
      by_cases hej : e = j
      · subst hej; exact List.mem_cons_self
      · exact List.mem_cons_of_mem _ (ih (by omega) (by omega))
    · rw [(step_heap hs (fun e => hj (isEff_iff.2 e))).2]
      have : e ≠ j := fun e2 => hj (by rw [← e2]; exact he)
      exact ih (by omega) (by omega)

theorem hist_head (h0 : (D 0).hist = []) : ∀ j, j ≤ ops.size → ((D j).hist = [] ∧ ∀ k, k < j → ¬ isEff T k) ∨ ∃ e hb rest, (D j).hist = (e, hb) :: rest ∧ isEff T e ∧ e < j ∧ ∀ k, e < k → k < j → ¬ isEff T k := by
  intro j
  induction j with
  | zero => intro _; exact .inl ⟨h0, fun k h => by omega⟩
  | succ j ih =>
    intro h2
    have hlt : j < ops.size := by omega
    have ho : ops[j]? = some ops[j] := by simp [hlt]
    have hs := hD j _ ho
    by_cases hj : isEff T j
    · rw [isEff_iff.1 hj] at hs
      exact .inr ⟨j, _, _, hs.2.2.2.2.2.2.2.1, hj, by omega, fun k a b => by omega⟩
    · have hh := (step_heap hs (fun e => hj (isEff_iff.2 e))).2
      rcases ih (by omega) with ⟨a, b⟩ | ⟨e, hb, rest, a, b, c, d⟩
      · exact .inl ⟨hh.trans a, fun k hk => by
          by_cases hkj : k = j
          · subst hkj; exact hj
          · exact b k (by omega)⟩
      · exact .inr ⟨e, hb, rest, hh.trans a, b, by omega, fun k x y => by
          by_cases hkj : k = j
          · subst hkj; exact hj
          · exact d k x (by omega)⟩

theorem lds_mem {i : Nat} {t : TypeId} {av : Value} (hi : T i = .load t av) : ∀ j, i < j → j ≤ ops.size → (i, t, av, V i) ∈ (D j).lds := by
  intro j
  induction j with
  | zero => intro h; omega
  | succ j ih =>
    intro h h2
    have hlt : j < ops.size := by omega
    have ho : ops[j]? = some ops[j] := by simp [hlt]
    have hs := hD j _ ho
    by_cases hij : i = j
    · subst hij
      rw [hi] at hs
      rw [hs.2.2.2.2.2.2.2.2.2]
      exact List.mem_cons_self
    · have hm := ih (by omega) (by omega)
      cases hT : T j with
      | skip => rw [hT] at hs; rw [hs.2.2.2.2.2.2.2]; exact hm
      | pure => rw [hT] at hs; rw [hs.2.2.2.2.2.2.2]; exact hm
      | new ob => rw [hT] at hs; rw [hs.2.2.2.2.2.2.2]; exact hm
      | load t2 av2 => rw [hT] at hs; rw [hs.2.2.2.2.2.2.2.2.2]; exact List.mem_cons_of_mem _ hm
      | eff => rw [hT] at hs; rw [hs.2.2.2.2.2.2.2.2]; exact hm

theorem fl_mem {k : Nat} {ob : AO} (hk : T k = .new ob) : ∀ j, k < j → j ≤ ops.size → (∀ e, k < e → e < j → isEff T e → (ms.getD e 0).testBit k = false) → (k, (D k).nx, ob) ∈ (D j).fl := by
  intro j
  induction j with
  | zero => intro h; omega
  | succ j ih =>
    intro h h2 hu
    have hlt : j < ops.size := by omega
    have ho : ops[j]? = some ops[j] := by simp [hlt]
    have hs := hD j _ ho
    by_cases hij : k = j
    · subst hij
      rw [hk] at hs
      rw [hs.2.2.2.2.2.1]
      exact List.mem_cons_self
    · have hm := ih (by omega) (by omega) fun e a b c => hu e a (by omega) c
      cases hT : T j with
      | skip => rw [hT] at hs; rw [hs.2.2.2.2.2.1]; exact hm
      | pure => rw [hT] at hs; rw [hs.2.2.2.2.2.1]; exact hm
      | new ob2 => rw [hT] at hs; rw [hs.2.2.2.2.2.1]; exact List.mem_cons_of_mem _ hm
      | load t2 av2 => rw [hT] at hs; rw [hs.2.2.2.2.2.2.2.1]; exact hm
      | eff =>
        rw [hT] at hs
        rw [hs.2.2.2.2.2.2.1, List.mem_filter]
        refine ⟨hm, ?_⟩
        have := hu j (by omega) (by omega) (isEff_iff.2 hT)
        show (!(ms.getD j 0).testBit k) = true
        rw [this]; rfl

theorem fl_inv (h0 : (D 0).fl = []) : ∀ j, j ≤ ops.size → ∀ x ∈ (D j).fl, ∃ ob, T x.1 = .new ob ∧ x.1 < j ∧ x.2 = ((D x.1).nx, ob) ∧ ∀ e, x.1 < e → e < j → isEff T e → (ms.getD e 0).testBit x.1 = false := by
  intro j
  induction j with
  | zero => intro _ x hx; rw [h0] at hx; cases hx
  | succ j ih =>
    intro h2 x hx
    have hlt : j < ops.size := by omega
    have ho : ops[j]? = some ops[j] := by simp [hlt]
    have hs := hD j _ ho
    have up : x ∈ (D j).fl → (isEff T j → (ms.getD j 0).testBit x.1 = false) → ∃ ob, T x.1 = .new ob ∧ x.1 < j + 1 ∧ x.2 = ((D x.1).nx, ob) ∧ ∀ e, x.1 < e → e < j + 1 → isEff T e → (ms.getD e 0).testBit x.1 = false := by
      intro hm hj
      obtain ⟨ob, a, b, c, d⟩ := ih (by omega) x hm
      exact ⟨ob, a, by omega, c, fun e p q r => by
        by_cases hej : e = j
        · subst hej; exact hj r
        · exact d e p (by omega) r⟩
    have notE : ∀ {t : DK}, T j = t → t ≠ .eff → ¬ isEff T j := fun h1 h2 h3 => h2 (h1 ▸ isEff_iff.1 h3)
    cases hT : T j with
    | skip => rw [hT] at hs; rw [hs.2.2.2.2.2.1] at hx; exact up hx fun he => absurd he (notE hT (by simp))
    | pure => rw [hT] at hs; rw [hs.2.2.2.2.2.1] at hx; exact up hx fun he => absurd he (notE hT (by simp))
    | load t2 av2 => rw [hT] at hs; rw [hs.2.2.2.2.2.2.2.1] at hx; exact up hx fun he => absurd he (notE hT (by simp))
    | new ob2 =>
      rw [hT] at hs
      rw [hs.2.2.2.2.2.1] at hx
      cases hx with
      | head => exact ⟨ob2, hT, by omega, rfl, fun e p q => by omega⟩
      | tail _ hm => exact up hm fun he => absurd he (notE hT (by simp))
    | eff =>
      rw [hT] at hs
      rw [hs.2.2.2.2.2.2.1, List.mem_filter] at hx
      exact up hx.1 fun _ => by simpa using hx.2
end

theorem setFl_get : ∀ (l : List (Nat × Nat × AO)) (h : Tr AO) (id : Nat), (∃ x ∈ l, x.2.1 = id ∧ (setFl h l).get id = some x.2.2) ∨ ((∀ x ∈ l, x.2.1 ≠ id) ∧ (setFl h l).get id = h.get id) := by
  intro l
  induction l with
  | nil => intro h id; exact .inr ⟨fun x hx => (by cases hx), rfl⟩
  | cons x l ih =>
    obtain ⟨k, i, o⟩ := x
    intro h id
    simp only [setFl]
    rcases ih (h.set i o) id with ⟨y, hy, e1, e2⟩ | ⟨e1, e2⟩
    · exact .inl ⟨y, List.mem_cons_of_mem _ hy, e1, e2⟩
    · rw [Tr.get_set] at e2
      by_cases hi : id = i
      · rw [if_pos hi] at e2
        exact .inl ⟨(k, i, o), List.mem_cons_self, hi.symm, e2⟩
      · rw [if_neg hi] at e2
        refine .inr ⟨fun y hy => ?_, e2⟩
        cases hy with
        | head => exact fun e => hi e.symm
        | tail _ h => exact e1 y h
end Go.Proofs.Ex
