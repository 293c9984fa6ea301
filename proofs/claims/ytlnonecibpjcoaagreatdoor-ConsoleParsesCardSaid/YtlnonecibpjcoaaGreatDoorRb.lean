/- The console at this program: the words of an answer. The console at this program: the report's line of a reply, without loops. Whole variables stored and loaded in one step. The console at this program: commands' values. The console at this program: the commands that words begin. The console at this -/
import Derived.Test.YtlnonecibpjcoaaGreatDoorRa
import Derived.Deep.MidRow
import Derived.Carry
import Derived.Deep.Slices
import Derived.Lib.SmallJoins
import Derived.ProofKit
import Derived.OpenShut
set_option linter.unusedSimpArgs false
set_option linter.unusedVariables false
set_option linter.unusedSectionVars false
namespace Go.Proofs.YtlnonecibpjcoaaGreatDoor
open Go.RowKit
attribute [local go_sem] Oper.semAt_some

/-- an answer -/
structure Ans where
  err : Int
  cnt : Int
  lo : Int
  hi : Int
  mc : Int
  lw : Int
  lr : Int
  hw : Int
  hr : Int
def Ans.l (a : Ans) : List Int := [a.err, a.cnt, a.lo, a.hi, a.mc, a.lw, a.lr, a.hw, a.hr]
def Ans.cs (a : Ans) : Array Value := #[.int .i64 a.err, .int .i64 a.cnt, .int .i64 a.lo, .int .i64 a.hi, .int .i64 a.mc, .int .i64 a.lw, .int .i64 a.lr, .int .i64 a.hw, .int .i64 a.hr]
theorem InV.new (w : World) (vs : List Value) (t : TypeId) : InV (w.alloc (.cells vs.toArray t)) (some ⟨w.heap.size, 0, none⟩) vs := fun h0 =>
  ⟨_, rfl, by simp, fun i hi => by
    rw [show (⟨w.heap.size, 0, none⟩ : Addr).add i = ⟨w.heap.size, i, none⟩ by
      unfold Addr.add
      split
      · next h0 => simp [h0]
      · simp]
    rw [cell_of_row _ _ i _ _ (0, 0) (na w vs.toArray t)]
    simp [hi]⟩

end Go.Proofs.YtlnonecibpjcoaaGreatDoor

namespace Go.Proofs.YtlnonecibpjcoaaGreatDoor
open Go.RowKit
attribute [local go_sem] Oper.semAt_some

/-- an Op's cells -/
structure OpV where
  kind : Int
  mkd : Int
  mn : ByteArray
  me : Int
  mf : Int
  ms : Int
  mpA : Option Addr
  mpn : Nat
  mpc : Nat
  qk : Int
  qn : ByteArray
  qa : Int
  qb : Int
  qw : Int
  qN : Int
  nm : ByteArray
  t : Int
  bits : Int
def OpV.cs (o : OpV) : Array Value := #[.int .i64 o.kind, .int .i64 o.mkd, .string o.mn, .int .i64 o.me, .int .i64 o.mf, .int .i64 o.ms, .slice o.mpA o.mpn o.mpc, .int .i64 o.qk, .string o.qn, .int .i64 o.qa, .int .i64 o.qb, .int .i64 o.qw, .int .i64 o.qN, .string o.nm, .int .i64 o.t, .int .u64 o.bits]
end Go.Proofs.YtlnonecibpjcoaaGreatDoor

namespace Go.Proofs.YtlnonecibpjcoaaGreatDoor
open Go.RowKit

theorem setRow_is (w : World) (g : Nat) (cs : Array Value) : w.setRow g cs = setRow w g cs := rfl

theorem wpList_storeW {ops : Array Oper} {rest : List Oper} {o : Oper} {a : Act} {w : World} {Q : Exit → Act → World → Prop} (hgd : o.guard = none) (t : TypeId) (p x : Operand)
    (ho : o.op = .store t p x) (g : Nat) (T : TypeId) (old new : Array Value) (hp : a.eval p = .pointer (some ⟨g, 0, none⟩)) (hx : a.eval x = .agg new)
    (hg : w.heap[g]? = some (.cells old T (0, 0))) (hi : (Tryz.prog.info? t).map (·.size) = some new.size) (hs : old.size = new.size) (h1 : new.all (·.oneCell') = true)
    (h : wpList Tryz.prog ops Q rest (a.put o.dst undef) (setRow w g new)) : wpList Tryz.prog ops Q (o :: rest) a w := by
  refine wpList_plain hgd fun _ hK => ?_
  unfold Oper.wp execOp
  simp only [ho, hp, hx, Instr.storeAt, Instr.sureAddr, Sem.run_bind, Sem.run_pure, Result.andThen_ok]
  rw [run_storeVar_row w g T t old new hg hi hs h1, setRow_is]
  exact hK _ _ h

theorem wpList_loadW {ops : Array Oper} {rest : List Oper} {o : Oper} {a : Act} {w : World} {Q : Exit → Act → World → Prop} (hgd : o.guard = none) (t : TypeId) (p : Operand)
    (ho : o.op = .load t p) (g : Nat) (T : TypeId) (cs : Array Value) (hp : a.eval p = .pointer (some ⟨g, 0, none⟩))
    (hg : w.heap[g]? = some (.cells cs T (0, 0))) (d : TypeDesc) (hd : d.isRow = true) (hu : Tryz.prog.underlying t = some d) (hi : (Tryz.prog.info? t).map (·.size) = some cs.size)
    (h : wpList Tryz.prog ops Q rest (a.put o.dst (.agg cs)) w) : wpList Tryz.prog ops Q (o :: rest) a w := by
  refine wpList_plain hgd fun _ hK => ?_
  unfold Oper.wp execOp
  simp only [ho, hp, Instr.loadAt, Instr.sureAddr, Sem.run_bind, Sem.run_pure, Result.andThen_ok]
  rw [run_loadVar_row w g T t cs (0, 0) d hg hu (by cases d <;> first | rfl | cases hd) hi]
  exact hK _ _ h

theorem wpList_buildW {ops : Array Oper} {rest : List Oper} {o : Oper} {a : Act} {w : World} {Q : Exit → Act → World → Prop} (hgd : o.guard = none) (t : TypeId) (ps : Array (Nat × Operand))
    (ho : o.op = .build t ps) (v : Value) (qs : Array (Nat × Value)) (hp : (ps.map fun (i, x) => (i, a.eval x)) = qs) (hv : (Instr.build t qs).run Tryz.prog w = .ok v w)
    (h : wpList Tryz.prog ops Q rest (a.put o.dst v) w) : wpList Tryz.prog ops Q (o :: rest) a w := by
  subst hp
  refine wpList_plain hgd fun _ hK => ?_
  unfold Oper.wp execOp
  simp only [ho, Sem.run_bind, Sem.run_pure, Result.andThen_ok]
  rw [hv]
  exact hK _ _ h

/-- a command's cells -/
def cmdCs (k : Int) (o : OpV) (n : Int) (M : Option Addr) (mn mc : Nat) : Array Value :=
  #[.int .i64 k, .int .i64 o.kind, .int .i64 o.mkd, .string o.mn, .int .i64 o.me, .int .i64 o.mf, .int .i64 o.ms, .slice o.mpA o.mpn o.mpc, .int .i64 o.qk, .string o.qn, .int .i64 o.qa, .int .i64 o.qb, .int .i64 o.qw, .int .i64 o.qN, .string o.nm, .int .i64 o.t, .int .u64 o.bits, .int .i64 n, .slice M mn mc]
theorem size48 : (Tryz.prog.info? 48).map (·.size) = some 19 := by kernel_rfl
theorem size29 : (Tryz.prog.info? 29).map (·.size) = some 16 := by kernel_rfl
theorem size24 : (Tryz.prog.info? 24).map (·.size) = some 6 := by kernel_rfl
theorem size26 : (Tryz.prog.info? 26).map (·.size) = some 6 := by kernel_rfl
theorem res_cell {fn : Func} {tmps : Array Value} {i : Nat} {t : TypeId} {g : Nat} {v : Value} {w : World} (hr : fn.results = #[.cell i t]) (ht : tmps.getD i undef = .pointer (some ⟨g, 0, none⟩))
    (hv : (loadVar t ⟨g, 0, none⟩).run Tryz.prog w = .ok v w) : (results fn tmps).run Tryz.prog w = .ok v w := by
  simp only [Array.getD_eq_getD_getElem?] at ht
  simp [results, hr, ht, asAddr, hv]
/-- results in a variable of one's own -/
theorem res48 {w : World} {g : Nat} {cs : Array Value} (hg : w.heap[g]? = some (.cells cs 48 (0, 0))) (hs : cs.size = 19) : (loadVar 48 ⟨g, 0, none⟩).run Tryz.prog w = .ok (.agg cs) w :=
  run_loadVar_row w g 48 48 cs (0, 0) _ hg Tryz.underlying48 rfl (by rw [size48, hs])
end Go.Proofs.YtlnonecibpjcoaaGreatDoor

namespace Go.Proofs.YtlnonecibpjcoaaGreatDoor
open Go.RowKit
attribute [local go_sem] Oper.semAt_some

theorem build48 (o : OpV) (w : World) : (Instr.build 48 #[(0, .int .i64 1), (1, .agg o.cs)]).run Tryz.prog w = .ok (.agg (cmdCs 1 o 0 none 0 0)) w := by
  obtain ⟨o0, o1, o2, o3, o4, o5, o6, o7, o8, o9, o10, o11, o12, o13, o14, o15, o16, o17⟩ := o
  kernel_rfl
theorem cmd_one (k : Int) (o : OpV) (n : Int) (M : Option Addr) (mn mc : Nat) : (cmdCs k o n M mn mc).all (·.oneCell') = true := by simp [cmdCs, Value.oneCell']

set_option maxRecDepth 100000 in
set_option maxHeartbeats 4000000 in
theorem con_do (o : OpV) (w : World) : Calls Tryz.prog 68 #[.agg o.cs] w fun e w' => e = .returned (.agg (cmdCs 1 o 0 none 0 0)) ∧ Below w.heap.size w w' := by
  have hb := build48 o
  have hs1 : (cmdCs 1 o 0 none 0 0).size = 19 := rfl
  have hs0 : o.cs.size = 16 := rfl
  have h1 := cmd_one 1 o 0 none 0 0
  generalize cmdCs 1 o 0 none 0 0 = Y at *
  generalize o.cs = X at *
  have fb := na w X 29
  go_enter Tryz.func68, Tryz.ntmps68
  have fr : ∀ Z, ((w.alloc (.cells X 29)).alloc (.cells Z 48)).heap[w.heap.size + 1]? = some (.cells Z 48 (0, 0)) := fun Z => by simpa using na (w.alloc (.cells X 29)) Z 48
  go_wp2_with (first
    | (refine wpList_loadW rfl _ _ rfl w.heap.size 29 X rfl (kp (bA (b0 _) _) fb) _ rfl Tryz.underlying29 (by rw [size29, hs0]) ?_; simp only [Act.put, List.setIfInBounds_toArray, List.set_cons_zero, List.set_cons_succ])
    | (refine wpList_buildW rfl _ _ rfl (.agg Y) #[(0, .int .i64 1), (1, .agg X)] (by simp [Act.eval]) (hb _) ?_; simp only [Act.put, List.setIfInBounds_toArray, List.set_cons_zero, List.set_cons_succ])
    | (refine wpList_storeW rfl _ _ _ rfl (w.heap.size + 1) 48 _ Y rfl rfl (fr _) (by rw [size48, hs1]) (by rw [hs1]; rfl) h1 ?_; simp only [Act.put]))
  generalize hT : setRow ((w.alloc (.cells X 29)).alloc _) (w.heap.size + 1) _ = w2
  obtain ⟨hb2, hg2⟩ := ret_row (bA (bA (b0 w) _) _) (by omega) (fr _) hT
  refine bodyPost_ret (v := .agg Y) ?_ rfl ⟨rfl, hb2⟩
  exact res_cell Tryz.results68 rfl (res48 hg2 hs1)

theorem build29m (k e f s : Int) (nm : ByteArray) (A : Option Addr) (n c : Nat) (w : World) : (Instr.build 29 #[(0, .int .i64 1), (1, .agg #[.int .i64 k, .string nm, .int .i64 e, .int .i64 f, .int .i64 s, .slice A n c])]).run Tryz.prog w = .ok (.agg (OpV.cs ⟨1, k, nm, e, f, s, A, n, c, 0, ⟨#[]⟩, 0, 0, 0, 0, ⟨#[]⟩, 0, 0⟩)) w := by
  kernel_rfl
set_option maxRecDepth 100000 in
set_option maxHeartbeats 4000000 in
theorem con_change (k e f s : Int) (nm : ByteArray) (A : Option Addr) (n c : Nat) (w : World) : Calls Tryz.prog 113 #[.agg #[.int .i64 k, .string nm, .int .i64 e, .int .i64 f, .int .i64 s, .slice A n c]] w fun e' w' =>
    e' = .returned (.agg (cmdCs 1 ⟨1, k, nm, e, f, s, A, n, c, 0, ⟨#[]⟩, 0, 0, 0, 0, ⟨#[]⟩, 0, 0⟩ 0 none 0 0)) ∧ Below w.heap.size w w' := by
  have hb := build29m k e f s nm A n c
  generalize hO : (⟨1, k, nm, e, f, s, A, n, c, 0, ⟨#[]⟩, 0, 0, 0, 0, ⟨#[]⟩, 0, 0⟩ : OpV) = o at *
  clear hO
  have hd := con_do o
  have hs1 : (cmdCs 1 o 0 none 0 0).size = 19 := rfl
  have h1 := cmd_one 1 o 0 none 0 0
  generalize cmdCs 1 o 0 none 0 0 = Y at *
  generalize o.cs = X at *
  have hs0 : (#[.int .i64 k, .string nm, .int .i64 e, .int .i64 f, .int .i64 s, .slice A n c] : Array Value).size = 6 := rfl
  generalize (#[.int .i64 k, .string nm, .int .i64 e, .int .i64 f, .int .i64 s, .slice A n c] : Array Value) = M at *
  have fb := na w M 24
  go_enter Tryz.func113, Tryz.ntmps113
  have fr : ∀ Z, ((w.alloc (.cells M 24)).alloc (.cells Z 48)).heap[w.heap.size + 1]? = some (.cells Z 48 (0, 0)) := fun Z => by simpa using na (w.alloc (.cells M 24)) Z 48
  go_wp2_with (first
    | fail
    | (refine wpList_loadW rfl _ _ rfl w.heap.size 24 M rfl (kp (bA (b0 _) _) fb) _ rfl Tryz.underlying24 (by rw [size24, hs0]) ?_; simp only [Act.put, List.setIfInBounds_toArray, List.set_cons_zero, List.set_cons_succ])
    | (refine wpList_buildW rfl _ _ rfl (.agg X) #[(0, .int .i64 1), (1, .agg M)] (by simp [Act.eval]) (hb _) ?_; simp only [Act.put, List.setIfInBounds_toArray, List.set_cons_zero, List.set_cons_succ]))
  refine (hd _).mono ?_
  rintro e' w2 ⟨rfl, hb2⟩
  have fr2 := kp hb2 (fr _)
  have hB := bB (bA (bA (b0 w) _) _) hb2
  go_wp2_with (refine wpList_storeW rfl _ _ _ rfl (w.heap.size + 1) 48 _ Y rfl rfl fr2 (by rw [size48, hs1]) (by rw [hs1]; rfl) h1 ?_; simp only [Act.put])
  generalize hT : setRow w2 (w.heap.size + 1) _ = w3
  obtain ⟨hb3, hg3⟩ := ret_row hB (by omega) fr2 hT
  refine bodyPost_ret (v := .agg Y) ?_ rfl ⟨rfl, hb3⟩
  exact res_cell Tryz.results113 rfl (res48 hg3 hs1)
end Go.Proofs.YtlnonecibpjcoaaGreatDoor

namespace Go.Proofs.YtlnonecibpjcoaaGreatDoor
open Go.RowKit
attribute [local go_sem] Oper.semAt_some

/-- a command, as plain data -/
structure Cm where
  kind : Int := 1
  ok : Int := 0
  mkd : Int := 0
  mn : ByteArray := ⟨#[]⟩
  me : Int := 0
  mf : Int := 0
  ms : Int := 0
  pts : List (Int × Int) := []
  qk : Int := 0
  qn : ByteArray := ⟨#[]⟩
  qa : Int := 0
  qb : Int := 0
  qw : Int := 0
  qN : Int := 0
  nm : ByteArray := ⟨#[]⟩
  t : Int := 0
  bits : Int := 0
  n : Int := 0
  masks : List Int := []
def Cm.cs (c : Cm) (A : Option Addr) (ac : Nat) (M : Option Addr) (mc : Nat) : Array Value :=
  cmdCs c.kind ⟨c.ok, c.mkd, c.mn, c.me, c.mf, c.ms, A, c.pts.length, ac, c.qk, c.qn, c.qa, c.qb, c.qw, c.qN, c.nm, c.t, c.bits⟩ c.n M c.masks.length mc
def CmdIs (B : Nat) (w : World) (v : Value) (c : Cm) : Prop :=
  ∃ A ac M mc, v = .agg (c.cs A ac M mc) ∧ RS 99 2 B w A c.pts.length ac (ptsV c.pts) ∧ RS 3 1 B w M c.masks.length mc (intV c.masks)
theorem CmdIs.mono {B B' : Nat} {w : World} {v : Value} {c : Cm} (h : CmdIs B w v c) (hB : B' ≤ B) : CmdIs B' w v c := by
  obtain ⟨A, ac, M, mc, h1, h2, h3⟩ := h
  exact ⟨A, ac, M, mc, h1, h2.mono hB, h3.mono hB⟩
theorem CmdIs.below {B : Nat} {w w' : World} {v : Value} {c : Cm} (h : CmdIs B w v c) (hb : Below w.heap.size w w') : CmdIs B w' v c := by
  obtain ⟨A, ac, M, mc, h1, h2, h3⟩ := h
  exact ⟨A, ac, M, mc, h1, h2.below hb, h3.below hb⟩
theorem CmdIs.exc {B : Nat} {w w' : World} {v : Value} {c : Cm} {q : Nat} {cs : Array Value} {t : TypeId} (h : CmdIs B w v c) (hx : Exc q w w') (hq : w.heap[q]? = some (.cells cs t (0, 0))) (h1 : t ≠ 99) (h2 : t ≠ 3) : CmdIs B w' v c := by
  obtain ⟨A, ac, M, mc, h3, h4, h5⟩ := h
  exact ⟨A, ac, M, mc, h3, h4.exc hx hq h1, h5.exc hx hq h2⟩
/-- how a command's function ends -/
def RPm (g : Nat) (r : Option (Cm × List ByteArray)) (w : World) (e : Ending) (w' : World) : Prop :=
  match r with
  | some (c, ws) => ∃ v, e = .returned v ∧ CmdIs w.heap.size w' v c ∧ Exc g w w' ∧ Wd g ws w'
  | none => e = .panicked [pn 410] ∧ Exc g w w'

theorem cmd_ret {fn : Func} {tmps : Array Value} {i g r : Nat} {w W : World} {Y Z : Array Value} {ws ws0 : List ByteArray} {c : Cm} {R : Option (Cm × List ByteArray)} (hr : fn.results = #[.cell i 48]) (ht : tmps.getD i undef = .pointer (some ⟨r, 0, none⟩))
    (fr : W.heap[r]? = some (.cells Z 48 (0, 0))) (hY : Y.size = 19) (hx : Exc g w W) (hw : Wd g ws W) (h0 : Wd g ws0 w) (hrw : w.heap.size ≤ r) (hv : CmdIs w.heap.size W (.agg Y) c) (hR : R = some (c, ws)) :
    bodyPost Tryz.prog fn (RPm g R w) .ret { tmps := tmps, defers := [] } (setRow W r Y) := by
  generalize hT : setRow W r Y = w4
  obtain ⟨hx4, f4⟩ := fin_x (b0 _) fr hT
  have lg := h0.lt
  have HX4 := xX hx hx4 (.inr ⟨hrw, by omega⟩)
  refine bodyPost_ret (v := .agg Y) (res_cell hr ht (res48 f4 hY)) rfl ?_
  subst hR
  exact ⟨_, rfl, hv.exc hx4 fr (by decide) (by decide), HX4, hw.of hx4 fr (by decide) (by decide) (h0.layX HX4)⟩
theorem cmd_one' (c : Cm) (A : Option Addr) (ac : Nat) (M : Option Addr) (mc : Nat) : (c.cs A ac M mc).all (·.oneCell') = true := cmd_one _ _ _ _ _ _
theorem cmd_size (c : Cm) (A : Option Addr) (ac : Nat) (M : Option Addr) (mc : Nat) : (c.cs A ac M mc).size = 19 := rfl

def pDrop (ws : List ByteArray) : Option (Cm × List ByteArray) :=
  match pName ws with
  | none => none
  | some (s, l) => some ({ ok := 1, mkd := 2, mn := s }, l)

set_option maxRecDepth 100000 in
set_option maxHeartbeats 4000000 in
theorem r_drop (g : Nat) (ws : List ByteArray) (w : World) (h : Wd g ws w) : Calls Tryz.prog 59 #[.pointer (some ⟨g, 0, none⟩)] w (RPm g (pDrop ws) w) := by
  have c0 := r_name g ws
  have lg := h.lt
  have HW := hide h
  have hW1 := fun Z => hide (h.below (bA (b0 w) (.cells Z 48)))
  have fr := fun Z => na w Z 48
  have HX1 := fun Z => hide (xA (x0 g w (Nat.le_of_lt lg)) (.cells Z 48))
  have HE := hide (show pDrop ws = (match pName ws with | none => none | some (s, l) => some ({ ok := 1, mkd := 2, mn := s }, l)) from rfl)
  obtain ⟨R, hR⟩ : ∃ R, R = pDrop ws := ⟨_, rfl⟩
  rw [← hR] at HE ⊢
  clear hR h
  go_enter Tryz.func59, Tryz.ntmps59
  go_wp2_with fail
  refine (c0 _ (hW1 _).out).mono ?_
  rintro e w2 hp2
  cases e1 : pName ws with
  | none =>
    rw [e1] at hp2 HE
    obtain ⟨rfl, hx⟩ := hp2
    go_wp2
    have := HE.out
    subst this
    exact ⟨rfl, rfl, xX (HX1 _).out hx (.inl rfl)⟩
  | some sl =>
    obtain ⟨s, l⟩ := sl
    rw [e1] at hp2 HE
    obtain ⟨rfl, hx, hw2⟩ := hp2
    have HX2 := hide (xX (HX1 _).out hx (.inl rfl))
    have f2 := kx hx (fr _) (by omega)
    have hW2 := hide hw2
    have c3 := con_change 2 0 0 0 s none 0 0
    clear hw2
    have hcs : ∀ w', CmdIs w.heap.size w' (.agg (cmdCs 1 ⟨1, 2, s, 0, 0, 0, none, 0, 0, 0, ⟨#[]⟩, 0, 0, 0, 0, ⟨#[]⟩, 0, 0⟩ 0 none 0 0)) { ok := 1, mkd := 2, mn := s } := fun w' => ⟨none, 0, none, 0, rfl, RS.nil _, RS.nil _⟩
    have hs1 : (cmdCs 1 ⟨1, 2, s, 0, 0, 0, none, 0, 0, 0, ⟨#[]⟩, 0, 0, 0, 0, ⟨#[]⟩, 0, 0⟩ 0 none 0 0).size = 19 := rfl
    have h1 := cmd_one 1 ⟨1, 2, s, 0, 0, 0, none, 0, 0, 0, ⟨#[]⟩, 0, 0, 0, 0, ⟨#[]⟩, 0, 0⟩ 0 none 0 0
    generalize cmdCs 1 ⟨1, 2, s, 0, 0, 0, none, 0, 0, 0, ⟨#[]⟩, 0, 0, 0, 0, ⟨#[]⟩, 0, 0⟩ 0 none 0 0 = Y at *
    go_wp2_with fail
    refine (c3 _).mono ?_
    rintro e w3 ⟨rfl, hb3⟩
    have f3 := kp hb3 f2
    go_wp2_with (refine wpList_storeW rfl _ _ _ rfl w.heap.size 48 _ Y rfl rfl f3 (by rw [size48, hs1]) (by rw [hs1]; rfl) h1 ?_; simp only [Act.put])
    exact cmd_ret Tryz.results59 rfl f3 hs1 (xB HX2.out hb3) (hW2.out.below hb3) HW.out (Nat.le_refl _) (hcs _) HE.out
end Go.Proofs.YtlnonecibpjcoaaGreatDoor

namespace Go.Proofs.YtlnonecibpjcoaaGreatDoor
open Go.ChangeShapes Go.WideShapes Go.ChangeAt Go.RowKit Go.Joins Go.Deep

theorem intV_app (a b : List Int) : intV (a ++ b) = intV a ++ intV b := by simp [intV]
section
variable {H : Type} {enc : TypeId × Value → H} {w : World} {base : Nat} {sp : Nat → Bool} {held : Bool}
end
end Go.Proofs.YtlnonecibpjcoaaGreatDoor

namespace Go.Proofs.YtlnonecibpjcoaaGreatDoor
open Go.ChangeShapes Go.WideShapes Go.ChangeAt Go.RowKit Go.Joins Go.Deep
/-- rows of numbers that came in -/
structure RowsIn (w : World) (X : Option Addr) (n C k : Nat) (rows : List (List Int)) : Prop where
  len : rows.length = n
  cap : n ≤ C
  top : C ≤ 9223372036854775807
  each : ∀ r ∈ rows, r.length = k ∧ ∀ x ∈ r, i64In x
  ink : InK w X n k (intV rows.flatten)
section
variable {H : Type} {enc : TypeId × Value → H} {w : World} {base : Nat} {sp : Nat → Bool} {held : Bool} {fuel : Nat} {cs : List Value} {x : DataW H × List MemPlace}
end
end Go.Proofs.YtlnonecibpjcoaaGreatDoor
