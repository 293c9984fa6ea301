/- Tables of what is known of numbers that are known by name alone. No program is imported. What operations on numbers come to. No program is imported. Numbers as the machine has them. No program is imported. Calls on numbers that are known by name alone. No program is imported. Numbers in runs: what is known of them. No program is imported. Calls by runs, with calls that are known ahead. No program is imported. -/
import Derived.Test.YtncmgfehlgkgdaaGreatDoorEd
import Derived.Test.YtncmgfehlgkgdaaGreatDoorEe
set_option linter.unusedSimpArgs false
set_option linter.unusedVariables false
set_option linter.unusedSectionVars false
namespace Go.Proofs.Ex
open Go.RowKit
variable [Sg]

def binNo : BinOp → Nat
  | .add => 0 | .sub => 1 | .mul => 2 | .quo => 3 | .rem => 4 | .and => 5 | .or => 6 | .xor => 7 | .andNot => 8
  | .shl => 9 | .shr => 10 | .eql => 11 | .neq => 12 | .lss => 13 | .leq => 14 | .gtr => 15 | .geq => 16
def unNo : UnOp → Nat
  | .neg => 0 | .xor => 1 | .not => 2 | .plus => 3

noncomputable def lookB : List (Nat × Nat × Value × Value × Value) → Nat → Nat → Value → Value → Option Value
  | [], _, _, _, _ => none
  | (o, t, a, b, v) :: l, o', t', a', b' => cond (Nat.beq o o' && Nat.beq t t' && eqV a a' && eqV b b') (some v) (lookB l o' t' a' b')
noncomputable def lookC : List (Nat × Nat × Value × Value) → Nat → Nat → Value → Option Value
  | [], _, _, _ => none
  | (s, d, a, v) :: l, s', d', a' => cond (Nat.beq s s' && Nat.beq d d' && eqV a a') (some v) (lookC l s' d' a')
noncomputable def lookU : List (Nat × Value × Value) → Nat → Value → Option Value
  | [], _, _ => none
  | (o, a, v) :: l, o', a' => cond (Nat.beq o o' && eqV a a') (some v) (lookU l o' a')
noncomputable def lookL : List (Nat × List Value × Value) → Nat → List Value → Option Value
  | [], _, _ => none
  | (f, a, v) :: l, f', a' => cond (Nat.beq f f' && veqN.veqL 5 a a') (some v) (lookL l f' a')
def aI (i : Nat) : Value := .complex .f64 i 0
def kI (n : Int) : Value := .int .i64 n

/-- what a value stands for, whatever the blocks stand for -/
def Is (v v' : Value) : Prop := (∀ E, VR E v v') ∧ ∀ E u, VR E v u → u = v'
theorem Is.atom {i : Nat} {v' : Value} (h : Sg.σ i = some v') (hs : scalarV v' = true) : Is (aI i) v' :=
  ⟨fun _ => .atom h hs, fun E u hu => by
    unfold aI at hu
    cases hu with
    | atom h2 _ => rw [h] at h2; exact (Option.some.inj h2).symm⟩
theorem Is.closed {v : Value} (h : closed v = true) : Is v v := ⟨fun _ => VR.closed h, fun _ _ hu => hu.eq h⟩
theorem Is.int (k : IntKind) (n : Int) : Is (.int k n) (.int k n) := Is.closed rfl
theorem Is.agg2 {a b a' b' : Value} (ha : Is a a') (hb : Is b b') : Is (.agg #[a, b]) (.agg #[a', b']) :=
  ⟨fun E => .agg rfl fun i v v' p q => by
    have hi : i < 2 := (Array.getElem?_eq_some_iff.1 p).1
    have : i = 0 ∨ i = 1 := by omega
    rcases this with rfl | rfl
    · simp at p q; subst p q; exact ha.1 E
    · simp at p q; subst p q; exact hb.1 E, fun E u hu => by
    cases hu with
    | agg s h =>
      rename_i u
      have hs : u.size = 2 := s.symm
      congr 1
      refine Array.ext hs fun i h1 h2 => ?_
      have : i = 0 ∨ i = 1 := by simp at h2; omega
      rcases this with rfl | rfl
      · exact ha.2 E _ (h 0 a _ rfl (by simp [h1]))
      · exact hb.2 E _ (h 1 b _ rfl (by simp [h1]))⟩

def LIs (l l' : List Value) : Prop := (∀ E, LR E l l') ∧ ∀ E u, LR E l u → u = l'
theorem LIs.nil : LIs [] [] := ⟨fun E => LR.nil E, fun _ _ h => h.nil_right⟩
theorem LIs.cons {v v' : Value} {l l' : List Value} (h : Is v v') (t : LIs l l') : LIs (v :: l) (v' :: l') :=
  ⟨fun E => LR.cons (h.1 E) (t.1 E), fun E u hu => by
    obtain ⟨x, y, rfl, hx, hy⟩ := hu.cases
    rw [h.2 E _ hx, t.2 E _ hy]⟩

def EB (P : Program) (e : Nat × Nat × Value × Value × Value) : Prop := ∃ a' b' v', Is e.2.2.1 a' ∧ Is e.2.2.2.1 b' ∧ (∀ E, VR E e.2.2.2.2 v') ∧
  ∀ op, binNo op = e.1 → ∀ x y w, (do eqGuard op e.2.1 x y a' b'; binOp op e.2.1 a' b').run P w = .ok v' w
def EC (P : Program) (e : Nat × Nat × Value × Value) : Prop := ∃ a' v', Is e.2.2.1 a' ∧ (∀ E, VR E e.2.2.2 v') ∧ ∀ w, (convert e.1 e.2.1 a').run P w = .ok v' w
def EU (P : Program) (e : Nat × Value × Value) : Prop := ∃ a' v', Is e.2.1 a' ∧ (∀ E, VR E e.2.2 v') ∧ ∀ op, unNo op = e.1 → ∀ w, (Op.unary op a').run P w = .ok v' w
def EX (P : Program) (e : Nat × List Value × Value) : Prop := ∃ l' v', LIs e.2.1 l' ∧ (∀ E, VR E e.2.2 v') ∧ ∀ w, (callFunc e.1 l'.toArray).run P w = .ok (.value v') w
def EO (P : Program) (e : Nat × List Value × Value) : Prop := ∃ l' v', LIs e.2.1 l' ∧ (∀ E, VR E e.2.2 v') ∧ ∀ w, Calls P e.1 l'.toArray w fun e w' => e = .returned v' ∧ Below w.heap.size w w'
def EM (P : Program) (e : Nat × List Value × Value) : Prop := ∃ l' v', LIs e.2.1 l' ∧ (∀ E, VR E e.2.2 v') ∧ ∀ mx, cond mx 1 0 = e.1 → ∀ (ts : List TypeId) w, (cond mx (Builtin.max_ ts.toArray 0 l'.toArray) (Builtin.min_ ts.toArray 0 l'.toArray)).run P w = .ok v' w

structure Tabs where
  B : List (Nat × Nat × Value × Value × Value)
  C : List (Nat × Nat × Value × Value)
  U : List (Nat × Value × Value)
  X : List (Nat × List Value × Value)
  O : List (Nat × List Value × Value)
  M : List (Nat × List Value × Value)

noncomputable def symL (L : Lk) (T : Tabs) : Lk := { L with
  sbin := fun o t a b => lookB T.B (binNo o) t a b
  scv := fun s d a => lookC T.C s d a
  sun := fun o a => lookU T.U (unNo o) a
  ext := fun f a => match L.ext f a with | some v => some v | none => lookL T.X f a
  orc := fun f a h => match L.orc f a h with | some v => some v | none => lookL T.O f a
  smx := fun m _ l => lookL T.M (cond m 1 0) l }

structure TabsOK (P : Program) (T : Tabs) : Prop where
  B : ∀ e ∈ T.B, EB P e
  C : ∀ e ∈ T.C, EC P e
  U : ∀ e ∈ T.U, EU P e
  X : ∀ e ∈ T.X, EX P e
  O : ∀ e ∈ T.O, EO P e
  M : ∀ e ∈ T.M, EM P e

theorem lookB_mem : ∀ (l : List (Nat × Nat × Value × Value × Value)) {o t : Nat} {a b v : Value}, lookB l o t a b = some v → (o, t, a, b, v) ∈ l := by
  intro l
  induction l with
  | nil => intro o t a b v h; cases h
  | cons e l ih =>
    obtain ⟨o', t', a', b', v'⟩ := e
    intro o t a b v h
    simp only [lookB] at h
    cases hc : (Nat.beq o' o && Nat.beq t' t && eqV a' a && eqV b' b) with
    | false => rw [hc] at h; exact List.mem_cons_of_mem _ (ih h)
    | true =>
      rw [hc] at h
      cases h
      simp only [Bool.and_eq_true] at hc
      rw [Nat.eq_of_beq_eq_true hc.1.1.1, Nat.eq_of_beq_eq_true hc.1.1.2, eqV_sound hc.1.2, eqV_sound hc.2]
      exact List.mem_cons_self
theorem lookC_mem : ∀ (l : List (Nat × Nat × Value × Value)) {o t : Nat} {a v : Value}, lookC l o t a = some v → (o, t, a, v) ∈ l := by
  intro l
  induction l with
  | nil => intro o t a v h; cases h
  | cons e l ih =>
    obtain ⟨o', t', a', v'⟩ := e
    intro o t a v h
    simp only [lookC] at h
    cases hc : (Nat.beq o' o && Nat.beq t' t && eqV a' a) with
    | false => rw [hc] at h; exact List.mem_cons_of_mem _ (ih h)
    | true =>
      rw [hc] at h
      cases h
      simp only [Bool.and_eq_true] at hc
      rw [Nat.eq_of_beq_eq_true hc.1.1, Nat.eq_of_beq_eq_true hc.1.2, eqV_sound hc.2]
      exact List.mem_cons_self
theorem lookU_mem : ∀ (l : List (Nat × Value × Value)) {o : Nat} {a v : Value}, lookU l o a = some v → (o, a, v) ∈ l := by
  intro l
  induction l with
  | nil => intro o a v h; cases h
  | cons e l ih =>
    obtain ⟨o', a', v'⟩ := e
    intro o a v h
    simp only [lookU] at h
    cases hc : (Nat.beq o' o && eqV a' a) with
    | false => rw [hc] at h; exact List.mem_cons_of_mem _ (ih h)
    | true =>
      rw [hc] at h
      cases h
      simp only [Bool.and_eq_true] at hc
      rw [Nat.eq_of_beq_eq_true hc.1, eqV_sound hc.2]
      exact List.mem_cons_self
theorem lookL_mem : ∀ (l : List (Nat × List Value × Value)) {o : Nat} {a : List Value} {v : Value}, lookL l o a = some v → (o, a, v) ∈ l := by
  intro l
  induction l with
  | nil => intro o a v h; cases h
  | cons e l ih =>
    obtain ⟨o', a', v'⟩ := e
    intro o a v h
    simp only [lookL] at h
    cases hc : (Nat.beq o' o && veqN.veqL 5 a' a) with
    | false => rw [hc] at h; exact List.mem_cons_of_mem _ (ih h)
    | true =>
      rw [hc] at h
      cases h
      simp only [Bool.and_eq_true] at hc
      rw [Nat.eq_of_beq_eq_true hc.1, (veq_sound 5).2 _ _ hc.2]
      exact List.mem_cons_self

theorem symL_ok {P : Program} {L : Lk} {T : Tabs} (hL : LkOK P L) (hT : TabsOK P T) : LkOK P (symL L T) where
  ti := hL.ti
  fs := hL.fs
  call := hL.call
  orx := hL.orx
  wide := hL.wide
  ext := by
    intro f args v h E args' ha
    simp only [symL] at h
    split at h
    · rename_i v1 h1
      cases h
      exact hL.ext f args _ h1 E args' ha
    · obtain ⟨l', v', h1, h2, h3⟩ := hT.X _ (lookL_mem _ h)
      rw [h1.2 E _ ha]
      exact ⟨v', h2 E, h3⟩
  orc := by
    intro f args h0 v h E w args' hr ha
    simp only [symL] at h
    split at h
    · rename_i v1 h1
      cases h
      exact hL.orc f args h0 _ h1 E w args' hr ha
    · obtain ⟨l', v', h1, h2, h3⟩ := hT.O _ (lookL_mem _ h)
      rw [h1.2 E _ ha]
      exact (h3 w).mono fun e w' ⟨q1, q2⟩ => ⟨v', q1, h2 E, q2⟩
  sbin := by
    intro op t a b v h E a' b' ha hb
    obtain ⟨x, y, z, h1, h2, h3, h4⟩ := hT.B _ (lookB_mem _ h)
    rw [h1.2 E _ ha, h2.2 E _ hb]
    exact ⟨z, h3 E, h4 op rfl⟩
  sun := by
    intro op a v h E a' ha
    obtain ⟨x, z, h1, h3, h4⟩ := hT.U _ (lookU_mem _ h)
    rw [h1.2 E _ ha]
    exact ⟨z, h3 E, h4 op rfl⟩
  scv := by
    intro s d a v h E a' ha
    obtain ⟨x, z, h1, h3, h4⟩ := hT.C _ (lookC_mem _ h)
    rw [h1.2 E _ ha]
    exact ⟨z, h3 E, h4⟩
  smx := by
    intro mx ts l v h E l' ha
    obtain ⟨x, z, h1, h3, h4⟩ := hT.M _ (lookL_mem _ h)
    rw [h1.2 E _ ha]
    exact ⟨z, h3 E, h4 mx rfl ts⟩
end Go.Proofs.Ex

namespace Go.Proofs.Ex
open Go.RowKit
variable [Sg]

def All {α : Type} (p : α → Prop) : List α → Prop
  | [] => True
  | x :: l => p x ∧ All p l
theorem All.mem {α : Type} {p : α → Prop} : ∀ {l : List α}, All p l → ∀ x ∈ l, p x := by
  intro l
  induction l with
  | nil => intro _ x h; cases h
  | cons y l ih =>
    intro h x hx
    cases hx with
    | head => exact h.1
    | tail _ hx => exact ih h.2 x hx

/-- what an operation on two numbers comes to -/
def opI (o : Nat) (k : IntKind) (x y : Int) : Int :=
  match o with
  | 0 => k.wrap (x + y)
  | 1 => k.wrap (x - y)
  | 2 => k.wrap (x * y)
  | 5 => k.wrap (BitVec.ofInt k.bits x &&& BitVec.ofInt k.bits y).toNat
  | 6 => k.wrap (BitVec.ofInt k.bits x ||| BitVec.ofInt k.bits y).toNat
  | 9 => k.wrap (x * 2 ^ (min y.toNat k.bits))
  | 10 => x.fdiv (2 ^ (min y.toNat k.bits))
  | _ => 0
def cmI (o : Nat) (x y : Int) : Bool :=
  match o with
  | 11 => x == y
  | 12 => x != y
  | 13 => decide (x < y)
  | 14 => decide (x ≤ y)
  | 15 => decide (x > y)
  | 16 => decide (x ≥ y)
  | _ => false
def cmF (o : Nat) (x y : Nat) : Bool :=
  match o with
  | 11 => FloatKind.f64.format.order x y == some .eq
  | 12 => FloatKind.f64.format.order x y != some .eq
  | 13 => FloatKind.f64.format.order x y == some .lt
  | 14 => FloatKind.f64.format.order x y == some .lt || FloatKind.f64.format.order x y == some .eq
  | 15 => FloatKind.f64.format.order x y == some .gt
  | 16 => FloatKind.f64.format.order x y == some .gt || FloatKind.f64.format.order x y == some .eq
  | _ => false
def isAr (o : Nat) : Bool := Nat.beq o 0 || Nat.beq o 1 || Nat.beq o 2 || Nat.beq o 5 || Nat.beq o 6
def isCm (o : Nat) : Bool := Nat.ble 11 o && Nat.ble o 16

variable {P : Program}
theorem EB.ar {o t : Nat} {a b v : Value} {k : IntKind} {x y : Int} (ha : Is a (.int k x)) (hb : Is b (.int k y)) (ho : isAr o = true) (hv : Is v (.int k (opI o k x y))) : EB P (o, t, a, b, v) := by
  refine ⟨_, _, _, ha, hb, hv.1, fun op he p q w => ?_⟩
  simp only at he
  subst he
  cases op <;> first
    | (cases ho; done)
    | (cases k <;> rfl)
theorem EB.sh {o t : Nat} {a b v : Value} {k k' : IntKind} {x y : Int} (ha : Is a (.int k x)) (hb : Is b (.int k' y)) (ho : o = 9 ∨ o = 10) (hy : 0 ≤ y) (hv : Is v (.int k (opI o k x y))) : EB P (o, t, a, b, v) := by
  refine ⟨_, _, _, ha, hb, hv.1, fun op he p q w => ?_⟩
  simp only at he
  have hn : ¬ y < 0 := by omega
  rcases ho with rfl | rfl
  · cases op <;> simp [binNo] at he
    simp [eqGuard, binOp, Op.shift, hn, opI]
  · cases op <;> simp [binNo] at he
    simp [eqGuard, binOp, Op.shift, hn, opI]
theorem EB.cm {o t : Nat} {a b : Value} {k : IntKind} {x y : Int} {c : Bool} (ha : Is a (.int k x)) (hb : Is b (.int k y)) (ho : isCm o = true) (hc : cmI o x y = c) : EB P (o, t, a, b, .bool c) := by
  refine ⟨_, _, .bool c, ha, hb, fun _ => .bool _, fun op he p q w => ?_⟩
  simp only at he
  subst he hc
  cases op <;> first
    | (cases ho; done)
    | (cases k <;> rfl)
theorem EB.cf {o t : Nat} {a b : Value} {x y : Nat} {c : Bool} (ha : Is a (.float .f64 x)) (hb : Is b (.float .f64 y)) (ho : isCm o = true) (hc : cmF o x y = c) : EB P (o, t, a, b, .bool c) := by
  refine ⟨_, _, .bool c, ha, hb, fun _ => .bool _, fun op he p q w => ?_⟩
  simp only at he
  subst he hc
  cases op <;> first
    | (cases ho; done)
    | rfl
theorem EC.int {s d : Nat} {a v : Value} {ds : TypeDesc} {k k' : IntKind} {n : Int} (hs : P.underlying s = some ds) (hd : P.underlying d = some (.int k')) (ha : Is a (.int k n)) (hv : Is v (.int k' (k'.wrap n))) : EC P (s, d, a, v) := by
  refine ⟨_, _, ha, hv.1, fun w => ?_⟩
  simp only [convert, Sem.run_bind, run_underlying hs, run_underlying hd, Result.andThen_ok]
  cases ds <;> rfl
theorem EU.neg {a v : Value} {k : IntKind} {n : Int} (ha : Is a (.int k n)) (hv : Is v (.int k (k.wrap (0 - n)))) : EU P (0, a, v) := by
  refine ⟨_, _, ha, hv.1, fun op he w => ?_⟩
  cases op <;> first
    | (cases he; done)
    | rfl
end Go.Proofs.Ex

namespace Go.Proofs.Ex
open Go.RowKit

theorem wrap_i64 {n : Int} (h1 : -9223372036854775808 ≤ n) (h2 : n < 9223372036854775808) : IntKind.i64.wrap n = n := by
  simp only [IntKind.wrap, IntKind.bits, IntKind.signed, if_true]
  first
    | omega
    | (simp; omega)
theorem wrap_u64 {n : Int} (h1 : 0 ≤ n) (h2 : n < 18446744073709551616) : IntKind.u64.wrap n = n := by
  simp only [IntKind.wrap, IntKind.bits, IntKind.signed]
  first
    | omega
    | (simp; omega)
theorem wrap_u64_nonneg (n : Int) : 0 ≤ IntKind.u64.wrap n := by
  simp only [IntKind.wrap, IntKind.bits, IntKind.signed]
  first
    | omega
    | (simp; omega)
theorem fdiv_nn {x : Int} (h : 0 ≤ x) (n : Nat) : 0 ≤ x.fdiv (2 ^ n) := by
  have h2 : (0 : Int) ≤ 2 ^ n := by
    have : (0 : Int) < 2 ^ n := Int.pow_pos (by decide)
    omega
  exact Int.fdiv_nonneg h h2
theorem opI_and_le (x y : Int) (h0 : 0 ≤ y) (h1 : y < 18446744073709551616) : opI 5 .u64 x y ≤ y := by
  show IntKind.u64.wrap ((BitVec.ofInt 64 x &&& BitVec.ofInt 64 y).toNat : Int) ≤ y
  have e : ((BitVec.ofInt 64 x &&& BitVec.ofInt 64 y).toNat : Int) ≤ y := by
    rw [BitVec.toNat_and]
    have h2 : (BitVec.ofInt 64 x).toNat &&& (BitVec.ofInt 64 y).toNat ≤ (BitVec.ofInt 64 y).toNat := Nat.and_le_right
    have h3 : ((BitVec.ofInt 64 y).toNat : Int) = y := by
      rw [BitVec.toNat_ofInt]
      have : y % ((2 ^ 64 : Nat) : Int) = y := by
        apply Int.emod_eq_of_lt h0
        simpa using h1
      rw [this]
      omega
    omega
  have hw : IntKind.u64.wrap ((BitVec.ofInt 64 x &&& BitVec.ofInt 64 y).toNat : Int) = ((BitVec.ofInt 64 x &&& BitVec.ofInt 64 y).toNat : Int) := wrap_u64 (by omega) (by omega)
  rw [hw]
  exact e

theorem cm11t {x y : Int} (h : cmI 11 x y = true) : x = y := by simpa [cmI] using h
theorem cm11f {x y : Int} (h : cmI 11 x y = false) : x ≠ y := by simpa [cmI] using h
theorem cm12t {x y : Int} (h : cmI 12 x y = true) : x ≠ y := by simpa [cmI] using h
theorem cm12f {x y : Int} (h : cmI 12 x y = false) : x = y := by simpa [cmI] using h
theorem cm13t {x y : Int} (h : cmI 13 x y = true) : x < y := by simpa [cmI] using h
theorem cm13f {x y : Int} (h : cmI 13 x y = false) : ¬ x < y := by simpa [cmI] using h
theorem cm14t {x y : Int} (h : cmI 14 x y = true) : x ≤ y := by simpa [cmI] using h
theorem cm14f {x y : Int} (h : cmI 14 x y = false) : ¬ x ≤ y := by simpa [cmI] using h
theorem cm15t {x y : Int} (h : cmI 15 x y = true) : x > y := by simpa [cmI] using h
theorem cm15f {x y : Int} (h : cmI 15 x y = false) : ¬ x > y := by simpa [cmI] using h
theorem cm16t {x y : Int} (h : cmI 16 x y = true) : x ≥ y := by simpa [cmI] using h
theorem cm16f {x y : Int} (h : cmI 16 x y = false) : ¬ x ≥ y := by simpa [cmI] using h

end Go.Proofs.Ex

namespace Go.Proofs.Ex
open Go.RowKit
variable [Sg]

theorem All.nil {α : Type} {p : α → Prop} : All p [] := trivial
theorem All.cons {α : Type} {p : α → Prop} {x : α} {l : List α} (h : p x) (t : All p l) : All p (x :: l) := ⟨h, t⟩

noncomputable def runA (P : Program) (L : Lk) (f : FuncId) (args : List Value) (n : Nat) : Option (Value × Tr AO × Nat) :=
  match enterA L .nil 0 f args false with
  | some s => backA L (arun P L n s)
  | none => none

theorem Is.aggL {l l' : List Value} (h : LIs l l') : Is (.agg l.toArray) (.agg l'.toArray) :=
  ⟨fun E => by have := (h.1 E).array; exact .agg this.1 this.2, fun E u hu => by
    cases hu with
    | agg s k =>
      rename_i u
      have : LR E l u.toList := by
        have q : AR E l.toArray u := ⟨s, k⟩
        simpa using q.list
      rw [← h.2 E _ this]⟩
theorem Is.tupL {l l' : List Value} (h : LIs l l') : Is (.tuple l.toArray) (.tuple l'.toArray) :=
  ⟨fun E => by have := (h.1 E).array; exact .tuple this.1 this.2, fun E u hu => by
    cases hu with
    | tuple s k =>
      rename_i u
      have : LR E l u.toList := by
        have q : AR E l.toArray u := ⟨s, k⟩
        simpa using q.list
      rw [← h.2 E _ this]⟩

theorem symCalls {P : Program} {L : Lk} (hm : P.follows .mixedOrders = true) (hL : LkOK P L) {T : Tabs} (hT : TabsOK P T) {f : FuncId} {args args' : List Value} {v v' : Value} {nx n : Nat}
    (hrun : outB v .nil nx (runA P (symL L T) f args n) = true) (ha : LIs args args') (hv : Is v v') (w : World) :
    Calls P f args'.toArray w fun e w' => e = .returned v' ∧ Below w.heap.size w w' := by
  unfold runA at hrun
  split at hrun
  · rename_i s hs
    have hL2 := symL_ok hL hT
    refine (Calls.ofA hL2 (arun_good hm hL2 n) hs (Sound.refl P s) hrun (Nat.le_refl _) (noSit w nx) (args' := args'.toArray) (by simpa using ha.1 noE)).mono ?_
    rintro e w' ⟨E', u, rfl, hu, _, hS⟩
    exact ⟨by rw [hv.2 E' u hu], hS.below⟩
  · cases hrun

end Go.Proofs.Ex

namespace Go.Proofs.Ex
open Go.RowKit
variable [Sg]

variable {P : Program}
theorem EM.max {a b v : Value} {k : IntKind} {x y : Int} (ha : Is a (.int k x)) (hb : Is b (.int k y)) (hv : Is v (.int k (if y > x then y else x))) : EM P (1, [a, b], v) := by
  refine ⟨_, _, .cons ha (.cons hb .nil), hv.1, fun mx he ts w => ?_⟩
  cases mx with
  | false => cases he
  | true => rfl
theorem EO.of {f : Nat} {l l' : List Value} {v v' : Value} (hl : LIs l l') (hv : Is v v') (h : ∀ w, Calls P f l'.toArray w fun e w' => e = .returned v' ∧ Below w.heap.size w w') : EO P (f, l, v) := ⟨_, _, hl, hv.1, h⟩
theorem EX.of {f : Nat} {l l' : List Value} {v v' : Value} (hl : LIs l l') (hv : Is v v') (h : ∀ w, (callFunc f l'.toArray).run P w = .ok (.value v') w) : EX P (f, l, v) := ⟨_, _, hl, hv.1, h⟩
end Go.Proofs.Ex

namespace Go.Proofs.Ex
open Go.RowKit
variable [Sg]

theorem runCalls {P : Program} {L : Lk} (hm : P.follows .mixedOrders = true) (hL : LkOK P L) {f : FuncId} {args args' : List Value} {v v' : Value} {nx n : Nat}
    (hrun : outB v .nil nx (runA P L f args n) = true) (ha : LIs args args') (hv : Is v v') (w : World) :
    Calls P f args'.toArray w fun e w' => e = .returned v' ∧ Below w.heap.size w w' := by
  unfold runA at hrun
  split at hrun
  · rename_i s hs
    refine (Calls.ofA hL (arun_good hm hL n) hs (Sound.refl P s) hrun (Nat.le_refl _) (noSit w nx) (args' := args'.toArray) (by simpa using ha.1 noE)).mono ?_
    rintro e w' ⟨E', u, rfl, hu, _, hS⟩
    exact ⟨by rw [hv.2 E' u hu], hS.below⟩
  · cases hrun

/-- the operations of a region -/
def regC (c : Code) : Array Oper := match c with | .region _ ops _ => ops | _ => #[]

theorem shr63_nn {v : Int} (h0 : 0 ≤ v) (h1 : v < 9223372036854775808) : opI 10 .i64 v 63 = 0 := by
  show v.fdiv (2 ^ (min (63 : Int).toNat 64)) = 0
  have e : min (63 : Int).toNat 64 = 63 := by decide
  rw [e, Int.fdiv_eq_ediv_of_nonneg v (by decide)]
  exact Int.ediv_eq_zero_of_lt h0 (by simpa using h1)
theorem shr63_neg {v : Int} (h0 : v < 0) (h1 : -9223372036854775808 ≤ v) : opI 10 .i64 v 63 = -1 := by
  show v.fdiv (2 ^ (min (63 : Int).toNat 64)) = -1
  have e : min (63 : Int).toNat 64 = 63 := by decide
  rw [e, Int.fdiv_eq_ediv_of_nonneg v (by decide)]
  have e2 : (2 : Int) ^ 63 = 9223372036854775808 := by decide
  rw [e2]
  omega
theorem wrap_back {v : Int} (h0 : -9223372036854775808 ≤ v) (h1 : v < 9223372036854775808) : IntKind.i64.wrap (IntKind.u64.wrap v) = v := by
  simp only [IntKind.wrap, IntKind.bits, IntKind.signed, if_true]
  first
    | omega
    | (simp; omega)
theorem wrap_u64_lt (n : Int) : IntKind.u64.wrap n < 18446744073709551616 := by
  simp only [IntKind.wrap, IntKind.bits, IntKind.signed]
  first
    | omega
    | (simp; omega)
end Go.Proofs.Ex
