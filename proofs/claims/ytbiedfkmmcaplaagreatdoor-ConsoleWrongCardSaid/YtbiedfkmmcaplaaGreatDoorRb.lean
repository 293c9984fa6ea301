/- The console at this program: the words of an answer. The console at this program: the report's line of a reply, without loops. Whole variables stored and loaded in one step. The console at this program: commands' values. The console at this program: the commands that words begin. The console at this -/
import Derived.Test.YtbiedfkmmcaplaaGreatDoorRa
import Derived.Deep.MidRow
import Derived.Carry
import Derived.Deep.Slices
import Derived.Lib.SmallJoins
import Derived.ProofKit
import Derived.OpenShut
set_option linter.all false
namespace Go.Proofs.YtbiedfkmmcaplaaGreatDoor
open Go.RowKit
attribute [local go_sem] Oper.semAt_some

structure Ans where
  err : Int
  cnt : Int
  lo : Int
  hi : Int
  mc : Int
  lw : Int
  lr : Int
  hw : Int
  hr : Int
def Ans.l (a : Ans) : List Int := [a.err, a.cnt, a.lo, a.hi, a.mc, a.lw, a.lr, a.hw, a.hr]
def Ans.cs (a : Ans) : Array Value := #[.int .i64 a.err, .int .i64 a.cnt, .int .i64 a.lo, .int .i64 a.hi, .int .i64 a.mc, .int .i64 a.lw, .int .i64 a.lr, .int .i64 a.hw, .int .i64 a.hr]
theorem InV.new (w : World) (vs : List Value) (t : TypeId) : InV (w.alloc (.cells vs.toArray t)) (some ⟨w.heap.size, 0, none⟩) vs := fun h0 =>
  ⟨_, rfl, by simp, fun i hi => by
    rw [show (⟨w.heap.size, 0, none⟩ : Addr).add i = ⟨w.heap.size, i, none⟩ by
      unfold Addr.add
      split
      · next h0 => simp [h0]
      · simp]
    rw [cell_of_row _ _ i _ _ (0, 0) (na w vs.toArray t)]
    simp [hi]⟩

end Go.Proofs.YtbiedfkmmcaplaaGreatDoor

namespace Go.Proofs.YtbiedfkmmcaplaaGreatDoor
open Go.RowKit
attribute [local go_sem] Oper.semAt_some

def sBlank : ByteArray := ⟨#[32]⟩
structure OpV where
  kind : Int
  mkd : Int
  mn : ByteArray
  me : Int
  mf : Int
  ms : Int
  mpA : Option Addr
  mpn : Nat
  mpc : Nat
  qk : Int
  qn : ByteArray
  qa : Int
  qb : Int
  qw : Int
  qN : Int
  nm : ByteArray
  t : Int
  bits : Int
def OpV.cs (o : OpV) : Array Value := #[.int .i64 o.kind, .int .i64 o.mkd, .string o.mn, .int .i64 o.me, .int .i64 o.mf, .int .i64 o.ms, .slice o.mpA o.mpn o.mpc, .int .i64 o.qk, .string o.qn, .int .i64 o.qa, .int .i64 o.qb, .int .i64 o.qw, .int .i64 o.qN, .string o.nm, .int .i64 o.t, .int .u64 o.bits]
theorem OwnV.built {T : TypeId} {B : Nat} (w : World) (vs : List Value) (hB : B ≤ w.heap.size) (hm : vs.length ≤ 1048576) : OwnV T B (w.alloc (.cells vs.toArray T)) (.slice (some ⟨w.heap.size, 0, none⟩) vs.length vs.length) vs :=
  ⟨by simp, .inr ⟨w.heap.size, vs.length, vs.toArray, rfl, hB, na w _ _, Nat.le_refl _, by unfold maxLen; omega, by simp, by simp⟩⟩

theorem decDigits_len : ∀ (n u : Nat), u < 10 ^ (n + 1) → (Lib.decDigits u).length ≤ n + 1 := by
  intro n
  induction n with
  | zero => intro u h; rw [Lib.decDigits]; split <;> simp_all
  | succ n ih =>
    intro u h
    rw [Lib.decDigits]
    split
    · simp
    · have : u / 10 < 10 ^ (n + 1) := by
        rw [Nat.div_lt_iff_lt_mul (by decide)]
        rw [Nat.pow_succ] at h
        exact h
      have := ih _ this
      simp
      omega
theorem itoaB_len (n : Int) (hn : i64In n) : (itoaB n).size ≤ 20 := by
  unfold itoaB Lib.itoa
  show (ByteArray.mk _).data.size ≤ 20
  simp only [List.size_toArray]
  split
  · have := decDigits_len 18 n.natAbs (by have := hn.1; omega)
    simp; omega
  · have := decDigits_len 18 n.toNat (by have := hn.2; omega)
    omega

theorem con_nums (l : List Int) (hl : l.length ≤ 1000000) (hi : ∀ x ∈ l, i64In x) (cs : Array Value) (n h : Nat) (w0 : World) (hcs : cs = (intV l).toArray) (hn : n = l.length) (hh : w0.heap.size = h) (hL : Laid w0) :
    Calls Tryz.prog 82 #[.slice (some ⟨h, 0, none⟩) n n] (w0.alloc (.cells cs 2)) fun e w' => ∃ A, e = .returned (.slice A n n) ∧ Below (w0.alloc (.cells cs 2)).heap.size (w0.alloc (.cells cs 2)) w' ∧ RV 9 w' A n (strV (l.map itoaB)) := by
  subst hcs hn hh
  exact (con_numbers (some ⟨w0.heap.size, 0, none⟩) l.length l hl hi _ (hL.below (bA (b0 w0) _)) (InV.new w0 (intV l) 2)).mono fun e w' ⟨h1, h2, h3⟩ => ⟨_, h1, h2, h3⟩

end Go.Proofs.YtbiedfkmmcaplaaGreatDoor

namespace Go.Proofs.YtbiedfkmmcaplaaGreatDoor
open Go.RowKit

theorem setRow_is (w : World) (g : Nat) (cs : Array Value) : w.setRow g cs = setRow w g cs := rfl

theorem wpList_storeW {ops : Array Oper} {rest : List Oper} {o : Oper} {a : Act} {w : World} {Q : Exit → Act → World → Prop} (hgd : o.guard = none) (t : TypeId) (p x : Operand)
    (ho : o.op = .store t p x) (g : Nat) (T : TypeId) (old new : Array Value) (hp : a.eval p = .pointer (some ⟨g, 0, none⟩)) (hx : a.eval x = .agg new)
    (hg : w.heap[g]? = some (.cells old T (0, 0))) (hi : (Tryz.prog.info? t).map (·.size) = some new.size) (hs : old.size = new.size) (h1 : new.all (·.oneCell') = true)
    (h : wpList Tryz.prog ops Q rest (a.put o.dst undef) (setRow w g new)) : wpList Tryz.prog ops Q (o :: rest) a w := by
  refine wpList_plain hgd fun _ hK => ?_
  unfold Oper.wp execOp
  simp only [ho, hp, hx, Instr.storeAt, Instr.sureAddr, Sem.run_bind, Sem.run_pure, Result.andThen_ok]
  rw [run_storeVar_row w g T t old new hg hi hs h1, setRow_is]
  exact hK _ _ h

theorem wpList_loadW {ops : Array Oper} {rest : List Oper} {o : Oper} {a : Act} {w : World} {Q : Exit → Act → World → Prop} (hgd : o.guard = none) (t : TypeId) (p : Operand)
    (ho : o.op = .load t p) (g : Nat) (T : TypeId) (cs : Array Value) (hp : a.eval p = .pointer (some ⟨g, 0, none⟩))
    (hg : w.heap[g]? = some (.cells cs T (0, 0))) (d : TypeDesc) (hd : d.isRow = true) (hu : Tryz.prog.underlying t = some d) (hi : (Tryz.prog.info? t).map (·.size) = some cs.size)
    (h : wpList Tryz.prog ops Q rest (a.put o.dst (.agg cs)) w) : wpList Tryz.prog ops Q (o :: rest) a w := by
  refine wpList_plain hgd fun _ hK => ?_
  unfold Oper.wp execOp
  simp only [ho, hp, Instr.loadAt, Instr.sureAddr, Sem.run_bind, Sem.run_pure, Result.andThen_ok]
  rw [run_loadVar_row w g T t cs (0, 0) d hg hu (by cases d <;> first | rfl | cases hd) hi]
  exact hK _ _ h

theorem wpList_buildW {ops : Array Oper} {rest : List Oper} {o : Oper} {a : Act} {w : World} {Q : Exit → Act → World → Prop} (hgd : o.guard = none) (t : TypeId) (ps : Array (Nat × Operand))
    (ho : o.op = .build t ps) (v : Value) (qs : Array (Nat × Value)) (hp : (ps.map fun (i, x) => (i, a.eval x)) = qs) (hv : (Instr.build t qs).run Tryz.prog w = .ok v w)
    (h : wpList Tryz.prog ops Q rest (a.put o.dst v) w) : wpList Tryz.prog ops Q (o :: rest) a w := by
  subst hp
  refine wpList_plain hgd fun _ hK => ?_
  unfold Oper.wp execOp
  simp only [ho, Sem.run_bind, Sem.run_pure, Result.andThen_ok]
  rw [hv]
  exact hK _ _ h

def cmdCs (k : Int) (o : OpV) (n : Int) (M : Option Addr) (mn mc : Nat) : Array Value :=
  #[.int .i64 k, .int .i64 o.kind, .int .i64 o.mkd, .string o.mn, .int .i64 o.me, .int .i64 o.mf, .int .i64 o.ms, .slice o.mpA o.mpn o.mpc, .int .i64 o.qk, .string o.qn, .int .i64 o.qa, .int .i64 o.qb, .int .i64 o.qw, .int .i64 o.qN, .string o.nm, .int .i64 o.t, .int .u64 o.bits, .int .i64 n, .slice M mn mc]
theorem size48 : (Tryz.prog.info? 38).map (·.size) = some 19 := by kernel_rfl
theorem size29 : (Tryz.prog.info? 35).map (·.size) = some 16 := by kernel_rfl
theorem size24 : (Tryz.prog.info? 30).map (·.size) = some 6 := by kernel_rfl
theorem size26 : (Tryz.prog.info? 32).map (·.size) = some 6 := by kernel_rfl
theorem res_cell {fn : Func} {tmps : Array Value} {i : Nat} {t : TypeId} {g : Nat} {v : Value} {w : World} (hr : fn.results = #[.cell i t]) (ht : tmps.getD i undef = .pointer (some ⟨g, 0, none⟩))
    (hv : (loadVar t ⟨g, 0, none⟩).run Tryz.prog w = .ok v w) : (results fn tmps).run Tryz.prog w = .ok v w := by
  simp only [Array.getD_eq_getD_getElem?] at ht
  simp [results, hr, ht, asAddr, hv]
theorem res48 {w : World} {g : Nat} {cs : Array Value} (hg : w.heap[g]? = some (.cells cs 38 (0, 0))) (hs : cs.size = 19) : (loadVar 38 ⟨g, 0, none⟩).run Tryz.prog w = .ok (.agg cs) w :=
  run_loadVar_row w g 38 38 cs (0, 0) _ hg Tryz.underlying38 rfl (by rw [size48, hs])
end Go.Proofs.YtbiedfkmmcaplaaGreatDoor

namespace Go.Proofs.YtbiedfkmmcaplaaGreatDoor
open Go.RowKit
attribute [local go_sem] Oper.semAt_some

theorem build48 (o : OpV) (w : World) : (Instr.build 38 #[(0, .int .i64 1), (1, .agg o.cs)]).run Tryz.prog w = .ok (.agg (cmdCs 1 o 0 none 0 0)) w := by
  obtain ⟨o0, o1, o2, o3, o4, o5, o6, o7, o8, o9, o10, o11, o12, o13, o14, o15, o16, o17⟩ := o
  kernel_rfl
theorem cmd_one (k : Int) (o : OpV) (n : Int) (M : Option Addr) (mn mc : Nat) : (cmdCs k o n M mn mc).all (·.oneCell') = true := by simp [cmdCs, Value.oneCell']

set_option maxRecDepth 100000 in
set_option maxHeartbeats 4000000 in
theorem con_do (o : OpV) (w : World) : Calls Tryz.prog 46 #[.agg o.cs] w fun e w' => e = .returned (.agg (cmdCs 1 o 0 none 0 0)) ∧ Below w.heap.size w w' := by
  have hb := build48 o
  have hs1 : (cmdCs 1 o 0 none 0 0).size = 19 := rfl
  have hs0 : o.cs.size = 16 := rfl
  have h1 := cmd_one 1 o 0 none 0 0
  generalize cmdCs 1 o 0 none 0 0 = Y at *
  generalize o.cs = X at *
  have fb := na w X 35
  go_enter Tryz.func46, Tryz.ntmps46
  have fr : ∀ Z, ((w.alloc (.cells X 35)).alloc (.cells Z 38)).heap[w.heap.size + 1]? = some (.cells Z 38 (0, 0)) := fun Z => by simpa using na (w.alloc (.cells X 35)) Z 38
  go_wp2_with (first
    | (refine wpList_loadW rfl _ _ rfl w.heap.size 35 X rfl (kp (bA (b0 _) _) fb) _ rfl Tryz.underlying35 (by rw [size29, hs0]) ?_; simp only [Act.put, List.setIfInBounds_toArray, List.set_cons_zero, List.set_cons_succ])
    | (refine wpList_buildW rfl _ _ rfl (.agg Y) #[(0, .int .i64 1), (1, .agg X)] (by simp [Act.eval]) (hb _) ?_; simp only [Act.put, List.setIfInBounds_toArray, List.set_cons_zero, List.set_cons_succ])
    | (refine wpList_storeW rfl _ _ _ rfl (w.heap.size + 1) 38 _ Y rfl rfl (fr _) (by rw [size48, hs1]) (by rw [hs1]; rfl) h1 ?_; simp only [Act.put]))
  generalize hT : setRow ((w.alloc (.cells X 35)).alloc _) (w.heap.size + 1) _ = w2
  obtain ⟨hb2, hg2⟩ := ret_row (bA (bA (b0 w) _) _) (by omega) (fr _) hT
  refine bodyPost_ret (v := .agg Y) ?_ rfl ⟨rfl, hb2⟩
  exact res_cell Tryz.results46 rfl (res48 hg2 hs1)

theorem build29m (k e f s : Int) (nm : ByteArray) (A : Option Addr) (n c : Nat) (w : World) : (Instr.build 35 #[(0, .int .i64 1), (1, .agg #[.int .i64 k, .string nm, .int .i64 e, .int .i64 f, .int .i64 s, .slice A n c])]).run Tryz.prog w = .ok (.agg (OpV.cs ⟨1, k, nm, e, f, s, A, n, c, 0, ⟨#[]⟩, 0, 0, 0, 0, ⟨#[]⟩, 0, 0⟩)) w := by
  kernel_rfl
set_option maxRecDepth 100000 in
set_option maxHeartbeats 4000000 in
theorem con_change (k e f s : Int) (nm : ByteArray) (A : Option Addr) (n c : Nat) (w : World) : Calls Tryz.prog 93 #[.agg #[.int .i64 k, .string nm, .int .i64 e, .int .i64 f, .int .i64 s, .slice A n c]] w fun e' w' =>
    e' = .returned (.agg (cmdCs 1 ⟨1, k, nm, e, f, s, A, n, c, 0, ⟨#[]⟩, 0, 0, 0, 0, ⟨#[]⟩, 0, 0⟩ 0 none 0 0)) ∧ Below w.heap.size w w' := by
  have hb := build29m k e f s nm A n c
  generalize hO : (⟨1, k, nm, e, f, s, A, n, c, 0, ⟨#[]⟩, 0, 0, 0, 0, ⟨#[]⟩, 0, 0⟩ : OpV) = o at *
  clear hO
  have hd := con_do o
  have hs1 : (cmdCs 1 o 0 none 0 0).size = 19 := rfl
  have h1 := cmd_one 1 o 0 none 0 0
  generalize cmdCs 1 o 0 none 0 0 = Y at *
  generalize o.cs = X at *
  have hs0 : (#[.int .i64 k, .string nm, .int .i64 e, .int .i64 f, .int .i64 s, .slice A n c] : Array Value).size = 6 := rfl
  generalize (#[.int .i64 k, .string nm, .int .i64 e, .int .i64 f, .int .i64 s, .slice A n c] : Array Value) = M at *
  have fb := na w M 30
  go_enter Tryz.func93, Tryz.ntmps93
  have fr : ∀ Z, ((w.alloc (.cells M 30)).alloc (.cells Z 38)).heap[w.heap.size + 1]? = some (.cells Z 38 (0, 0)) := fun Z => by simpa using na (w.alloc (.cells M 30)) Z 38
  go_wp2_with (first
    | fail
    | (refine wpList_loadW rfl _ _ rfl w.heap.size 30 M rfl (kp (bA (b0 _) _) fb) _ rfl Tryz.underlying30 (by rw [size24, hs0]) ?_; simp only [Act.put, List.setIfInBounds_toArray, List.set_cons_zero, List.set_cons_succ])
    | (refine wpList_buildW rfl _ _ rfl (.agg X) #[(0, .int .i64 1), (1, .agg M)] (by simp [Act.eval]) (hb _) ?_; simp only [Act.put, List.setIfInBounds_toArray, List.set_cons_zero, List.set_cons_succ]))
  refine (hd _).mono ?_
  rintro e' w2 ⟨rfl, hb2⟩
  have fr2 := kp hb2 (fr _)
  have hB := bB (bA (bA (b0 w) _) _) hb2
  go_wp2_with (refine wpList_storeW rfl _ _ _ rfl (w.heap.size + 1) 38 _ Y rfl rfl fr2 (by rw [size48, hs1]) (by rw [hs1]; rfl) h1 ?_; simp only [Act.put])
  generalize hT : setRow w2 (w.heap.size + 1) _ = w3
  obtain ⟨hb3, hg3⟩ := ret_row hB (by omega) fr2 hT
  refine bodyPost_ret (v := .agg Y) ?_ rfl ⟨rfl, hb3⟩
  exact res_cell Tryz.results93 rfl (res48 hg3 hs1)
end Go.Proofs.YtbiedfkmmcaplaaGreatDoor

namespace Go.Proofs.YtbiedfkmmcaplaaGreatDoor
open Go.RowKit
attribute [local go_sem] Oper.semAt_some

structure Cm where
  kind : Int := 1
  ok : Int := 0
  mkd : Int := 0
  mn : ByteArray := ⟨#[]⟩
  me : Int := 0
  mf : Int := 0
  ms : Int := 0
  pts : List (Int × Int) := []
  qk : Int := 0
  qn : ByteArray := ⟨#[]⟩
  qa : Int := 0
  qb : Int := 0
  qw : Int := 0
  qN : Int := 0
  nm : ByteArray := ⟨#[]⟩
  t : Int := 0
  bits : Int := 0
  n : Int := 0
  masks : List Int := []
def Cm.cs (c : Cm) (A : Option Addr) (ac : Nat) (M : Option Addr) (mc : Nat) : Array Value :=
  cmdCs c.kind ⟨c.ok, c.mkd, c.mn, c.me, c.mf, c.ms, A, c.pts.length, ac, c.qk, c.qn, c.qa, c.qb, c.qw, c.qN, c.nm, c.t, c.bits⟩ c.n M c.masks.length mc
def CmdIs (B : Nat) (w : World) (v : Value) (c : Cm) : Prop :=
  ∃ A ac M mc, v = .agg (c.cs A ac M mc) ∧ RS 166 2 B w A c.pts.length ac (ptsV c.pts) ∧ RS 3 1 B w M c.masks.length mc (intV c.masks)
theorem CmdIs.mono {B B' : Nat} {w : World} {v : Value} {c : Cm} (h : CmdIs B w v c) (hB : B' ≤ B) : CmdIs B' w v c := by
  obtain ⟨A, ac, M, mc, h1, h2, h3⟩ := h
  exact ⟨A, ac, M, mc, h1, h2.mono hB, h3.mono hB⟩
theorem CmdIs.below {B : Nat} {w w' : World} {v : Value} {c : Cm} (h : CmdIs B w v c) (hb : Below w.heap.size w w') : CmdIs B w' v c := by
  obtain ⟨A, ac, M, mc, h1, h2, h3⟩ := h
  exact ⟨A, ac, M, mc, h1, h2.below hb, h3.below hb⟩
theorem CmdIs.exc {B : Nat} {w w' : World} {v : Value} {c : Cm} {q : Nat} {cs : Array Value} {t : TypeId} (h : CmdIs B w v c) (hx : Exc q w w') (hq : w.heap[q]? = some (.cells cs t (0, 0))) (h1 : t ≠ 166) (h2 : t ≠ 3) : CmdIs B w' v c := by
  obtain ⟨A, ac, M, mc, h3, h4, h5⟩ := h
  exact ⟨A, ac, M, mc, h3, h4.exc hx hq h1, h5.exc hx hq h2⟩
def RPm (g : Nat) (r : Option (Cm × List ByteArray)) (w : World) (e : Ending) (w' : World) : Prop :=
  match r with
  | some (c, ws) => ∃ v, e = .returned v ∧ CmdIs w.heap.size w' v c ∧ Exc g w w' ∧ Wd g ws w'
  | none => e = .panicked [pn 410] ∧ Exc g w w'

theorem cmd_ret {fn : Func} {tmps : Array Value} {i g r : Nat} {w W : World} {Y Z : Array Value} {ws ws0 : List ByteArray} {c : Cm} {R : Option (Cm × List ByteArray)} (hr : fn.results = #[.cell i 38]) (ht : tmps.getD i undef = .pointer (some ⟨r, 0, none⟩))
    (fr : W.heap[r]? = some (.cells Z 38 (0, 0))) (hY : Y.size = 19) (hx : Exc g w W) (hw : Wd g ws W) (h0 : Wd g ws0 w) (hrw : w.heap.size ≤ r) (hv : CmdIs w.heap.size W (.agg Y) c) (hR : R = some (c, ws)) :
    bodyPost Tryz.prog fn (RPm g R w) .ret { tmps := tmps, defers := [] } (setRow W r Y) := by
  generalize hT : setRow W r Y = w4
  obtain ⟨hx4, f4⟩ := fin_x (b0 _) fr hT
  have lg := h0.lt
  have HX4 := xX hx hx4 (.inr ⟨hrw, by omega⟩)
  refine bodyPost_ret (v := .agg Y) (res_cell hr ht (res48 f4 hY)) rfl ?_
  subst hR
  exact ⟨_, rfl, hv.exc hx4 fr (by decide) (by decide), HX4, hw.of hx4 fr (by decide) (by decide) (h0.layX HX4)⟩
theorem cmd_one' (c : Cm) (A : Option Addr) (ac : Nat) (M : Option Addr) (mc : Nat) : (c.cs A ac M mc).all (·.oneCell') = true := cmd_one _ _ _ _ _ _
theorem cmd_size (c : Cm) (A : Option Addr) (ac : Nat) (M : Option Addr) (mc : Nat) : (c.cs A ac M mc).size = 19 := rfl

def pDrop (ws : List ByteArray) : Option (Cm × List ByteArray) :=
  match pName ws with
  | none => none
  | some (s, l) => some ({ ok := 1, mkd := 2, mn := s }, l)

set_option maxRecDepth 100000 in
set_option maxHeartbeats 4000000 in
theorem r_drop (g : Nat) (ws : List ByteArray) (w : World) (h : Wd g ws w) : Calls Tryz.prog 37 #[.pointer (some ⟨g, 0, none⟩)] w (RPm g (pDrop ws) w) := by
  have c0 := r_name g ws
  have lg := h.lt
  have HW := hide h
  have hW1 := fun Z => hide (h.below (bA (b0 w) (.cells Z 38)))
  have fr := fun Z => na w Z 38
  have HX1 := fun Z => hide (xA (x0 g w (Nat.le_of_lt lg)) (.cells Z 38))
  have HE := hide (show pDrop ws = (match pName ws with | none => none | some (s, l) => some ({ ok := 1, mkd := 2, mn := s }, l)) from rfl)
  obtain ⟨R, hR⟩ : ∃ R, R = pDrop ws := ⟨_, rfl⟩
  rw [← hR] at HE ⊢
  clear hR h
  go_enter Tryz.func37, Tryz.ntmps37
  go_wp2_with fail
  refine (c0 _ (hW1 _).out).mono ?_
  rintro e w2 hp2
  cases e1 : pName ws with
  | none =>
    rw [e1] at hp2 HE
    obtain ⟨rfl, hx⟩ := hp2
    go_wp2
    have := HE.out
    subst this
    exact ⟨rfl, rfl, xX (HX1 _).out hx (.inl rfl)⟩
  | some sl =>
    obtain ⟨s, l⟩ := sl
    rw [e1] at hp2 HE
    obtain ⟨rfl, hx, hw2⟩ := hp2
    have HX2 := hide (xX (HX1 _).out hx (.inl rfl))
    have f2 := kx hx (fr _) (by omega)
    have hW2 := hide hw2
    have c3 := con_change 2 0 0 0 s none 0 0
    clear hw2
    have hcs : ∀ w', CmdIs w.heap.size w' (.agg (cmdCs 1 ⟨1, 2, s, 0, 0, 0, none, 0, 0, 0, ⟨#[]⟩, 0, 0, 0, 0, ⟨#[]⟩, 0, 0⟩ 0 none 0 0)) { ok := 1, mkd := 2, mn := s } := fun w' => ⟨none, 0, none, 0, rfl, RS.nil _, RS.nil _⟩
    have hs1 : (cmdCs 1 ⟨1, 2, s, 0, 0, 0, none, 0, 0, 0, ⟨#[]⟩, 0, 0, 0, 0, ⟨#[]⟩, 0, 0⟩ 0 none 0 0).size = 19 := rfl
    have h1 := cmd_one 1 ⟨1, 2, s, 0, 0, 0, none, 0, 0, 0, ⟨#[]⟩, 0, 0, 0, 0, ⟨#[]⟩, 0, 0⟩ 0 none 0 0
    generalize cmdCs 1 ⟨1, 2, s, 0, 0, 0, none, 0, 0, 0, ⟨#[]⟩, 0, 0, 0, 0, ⟨#[]⟩, 0, 0⟩ 0 none 0 0 = Y at *
    go_wp2_with fail
    refine (c3 _).mono ?_
    rintro e w3 ⟨rfl, hb3⟩
    have f3 := kp hb3 f2
    go_wp2_with (refine wpList_storeW rfl _ _ _ rfl w.heap.size 38 _ Y rfl rfl f3 (by rw [size48, hs1]) (by rw [hs1]; rfl) h1 ?_; simp only [Act.put])
    exact cmd_ret Tryz.results37 rfl f3 hs1 (xB HX2.out hb3) (hW2.out.below hb3) HW.out (Nat.le_refl _) (hcs _) HE.out
end Go.Proofs.YtbiedfkmmcaplaaGreatDoor

namespace Go.Proofs.YtbiedfkmmcaplaaGreatDoor
open Go.ChangeShapes Go.WideShapes Go.ChangeAt Go.RowKit Go.Joins Go.Deep

theorem lt_of_cell {w : World} {a : Addr} {v : Value} (h : w.cell? a = some v) : a.block < w.heap.size := by
  rcases Nat.lt_or_ge a.block w.heap.size with h' | h'
  · exact h'
  · exfalso
    unfold World.cell? at h
    rw [Array.getElem?_eq_none h'] at h
    simp at h
theorem i64_wf {x : Int} (h : (Lit.int .i64 x).wf = true) : i64In x := by
  simp [Lit.wf, IntKind.min, IntKind.max, IntKind.signed, IntKind.bits] at h
  unfold i64In
  omega
theorem intV_app (a b : List Int) : intV (a ++ b) = intV a ++ intV b := by simp [intV]
section
variable {H : Type} {enc : TypeId × Value → H} {w : World} {base : Nat} {sp : Nat → Bool} {held : Bool}
def OI (enc : TypeId × Value → H) (w : World) (base : Nat) (sp : Nat → Bool) (held : Bool) (T k : Nat) : Prop := ∀ {fuel : Nat} {cs : List Value} {x : DataW H × List MemPlace}, DataW.trod enc Tryz.prog w base sp held fuel T cs = some x → ∃ xs : List Int, cs = intV xs ∧ xs.length = k ∧ ∀ x ∈ xs, i64In x
theorem oi2 : OI enc w base sp held 2 1 := fun h => by
  obtain ⟨n, e, _, hw⟩ := DataW.trod_int Tryz.underlying2 h
  exact ⟨[n], e, rfl, fun x hx => by simp only [List.mem_singleton] at hx; subst hx; exact i64_wf hw⟩
theorem oi3 : OI enc w base sp held 3 1 := fun h => by
  obtain ⟨n, e, _, hw⟩ := DataW.trod_int Tryz.underlying3 h
  exact ⟨[n], e, rfl, fun x hx => by simp only [List.mem_singleton] at hx; subst hx; exact i64_wf hw⟩
set_option maxRecDepth 100000 in
theorem oi99 : OI enc w base sp held 166 2 := fun {fuel cs x} h => by
  obtain ⟨xs, n, _, _, hlen, hxl, hf⟩ := DataW.trod_struct Tryz.underlying166 h
  have hC : Tryz.prog.cellsOf 166 = 2 := by kernel_rfl
  have hC2 : Tryz.prog.cellsOf 2 = 1 := by kernel_rfl
  rw [hC] at hlen
  match cs, hlen, xs, hxl with
  | [c0, c1], _, [y0, y1], _ =>
    have k0 : DataW.trod enc Tryz.prog w base sp held n 2 ((([c0, c1] : List Value).drop 0).take (Tryz.prog.cellsOf 2)) = some y0 := hf 0 _ rfl
    rw [hC2] at k0
    obtain ⟨l0, e0, n0, b0⟩ := oi2 k0
    have k1 : DataW.trod enc Tryz.prog w base sp held n 2 ((([c0, c1] : List Value).drop 1).take (Tryz.prog.cellsOf 2)) = some y1 := hf 1 _ rfl
    rw [hC2] at k1
    obtain ⟨l1, e1, n1, b1⟩ := oi2 k1
    refine ⟨l0 ++ l1, ?_, ?_, ?_⟩
    · simp only [intV_app, ← e0, ← e1]
      rfl
    · simp only [List.length_append, n0, n1]
    · intro x hx
      simp only [List.mem_append] at hx
      rcases hx with hx | hx
      · exact b0 x hx
      · exact b1 x hx
theorem list_at {α : Type} {cell : Nat → α → Prop} (n : Nat) (h : ∀ i, i < n → ∃ b, cell i b) : ∃ xs : List α, xs.length = n ∧ ∀ i (hi : i < xs.length), cell i xs[i] := by
  induction n with
  | zero => exact ⟨[], rfl, fun i hi => by simp at hi⟩
  | succ n ih =>
    obtain ⟨xs, h1, h2⟩ := ih fun i hi => h i (by omega)
    obtain ⟨b, hb⟩ := h n (by omega)
    refine ⟨xs ++ [b], by simp [h1], fun i hi => ?_⟩
    by_cases e : i < xs.length
    · rw [List.getElem_append_left e]; exact h2 i e
    · have e' : i = n := by simp at hi; omega
      subst e'
      rw [List.getElem_append_right (by omega)]
      simpa using hb
theorem flat_len (k : Nat) : ∀ rows : List (List Int), (∀ r ∈ rows, r.length = k) → rows.flatten.length = rows.length * k
  | [], _ => by simp
  | r :: rows, h => by
    rw [List.flatten_cons, List.length_append, flat_len k rows (fun q hq => h q (List.mem_cons_of_mem _ hq)), h r List.mem_cons_self, List.length_cons, Nat.succ_mul]
    omega
theorem flat_get (k : Nat) : ∀ (rows : List (List Int)), (∀ r ∈ rows, r.length = k) → ∀ (i j : Nat) (hi : i < rows.length), j < k → rows.flatten[i * k + j]? = (rows[i])[j]?
  | [], _, i, j, hi, _ => by simp at hi
  | r :: rows, h, 0, j, hi, hj => by
    have := h r List.mem_cons_self
    rw [List.flatten_cons, Nat.zero_mul, Nat.zero_add, List.getElem?_append_left (by omega)]
    rfl
  | r :: rows, h, i + 1, j, hi, hj => by
    have hr := h r List.mem_cons_self
    have ih := flat_get k rows (fun q hq => h q (List.mem_cons_of_mem _ hq)) i j (by simpa using hi) hj
    rw [List.flatten_cons, List.getElem?_append_right (by rw [hr, Nat.succ_mul]; omega), hr, show (i + 1) * k + j - k = i * k + j by rw [Nat.succ_mul]; omega, ih]
    rfl
set_option maxRecDepth 100000 in
theorem open_rows {T e k : Nat} (ht : Tryz.prog.underlying T = some (.slice e)) (hC : Tryz.prog.cellsOf e = k) (hk : 0 < k) (hO : ∀ sp held, OI enc w base sp held e k) {n : Nat} {cs : List Value} {x : DataW H × List MemPlace} (hx : DataW.trod enc Tryz.prog w base sp held n T cs = some x) :
    ∃ (X : Option Addr) (C : Nat) (rows : List (List Int)), cs = [.slice X rows.length C] ∧ rows.length ≤ C ∧ C ≤ 9223372036854775807 ∧ (∀ r ∈ rows, r.length = k ∧ ∀ x ∈ r, i64In x) ∧ InK w X rows.length k (intV rows.flatten) := by
  rcases open_slice ht hx with ⟨rfl, _⟩ | ⟨a, len, cap, m, n', D, Pl, rfl, hb, hl, hm, hmm, _, hi⟩
  · exact ⟨none, 0, [], rfl, Nat.le_refl _, by decide, fun r hr => by simp at hr, by simp [intV], fun h => by simp at h⟩
  · have hlm : len ≤ m := by rw [hmm]; split <;> omega
    obtain ⟨rows, h1, h2⟩ := list_at (cell := fun i (r : List Int) => (r.length = k ∧ ∀ x ∈ r, i64In x) ∧ ∀ j, j < k → w.cell? (a.add (i * k + j)) = (intV r)[j]?) len (fun i him => by
      obtain ⟨cs', hc, ht'⟩ := hi i (by omega)
      rw [hC] at hc
      obtain ⟨_, _, hat⟩ := World.cells?_some hc
      obtain ⟨r, rfl, hr, hri⟩ := hO _ _ ht'
      refine ⟨r, ⟨hr, hri⟩, fun j hj => ?_⟩
      have q := hat j (by simpa [intV, hr] using hj)
      rw [Go.Deep.add_add] at q
      rw [q])
    subst h1
    have hall : ∀ r ∈ rows, r.length = k ∧ ∀ x ∈ r, i64In x := fun r hr => by
      obtain ⟨i, hi, rfl⟩ := List.getElem_of_mem hr
      exact (h2 i hi).1
    refine ⟨some a, cap, rows, rfl, hl, by unfold maxLen at hm; omega, hall, by simp only [intV, List.length_map]; exact flat_len k rows fun r hr => (hall r hr).1, fun h0 => ⟨a, rfl, ?_, fun i hi => ?_⟩⟩
    · have q := (h2 0 h0).2 0 hk
      have hr := (h2 0 h0).1.1
      have : (intV rows[0])[0]? = some (.int .i64 (rows[0][0]'(by omega))) := by simp [intV]
      rw [this, Nat.zero_mul, Nat.add_zero] at q
      have q2 := lt_of_cell q
      have q3 : (a.add 0).block = a.block := by unfold Addr.add; split <;> rfl
      rw [q3] at q2
      exact q2
    · have hdiv : i / k < rows.length := Nat.div_lt_of_lt_mul (by rw [Nat.mul_comm]; exact hi)
      have hmod : i % k < k := Nat.mod_lt _ hk
      have e : i = i / k * k + i % k := by rw [Nat.mul_comm]; exact (Nat.div_add_mod i k).symm
      have q := (h2 (i / k) hdiv).2 (i % k) hmod
      rw [← e] at q
      rw [q]
      have g := flat_get k rows (fun r hr => (hall r hr).1) (i / k) (i % k) hdiv hmod
      rw [← e] at g
      simp only [intV, List.getElem?_map, g]
end
end Go.Proofs.YtbiedfkmmcaplaaGreatDoor

namespace Go.Proofs.YtbiedfkmmcaplaaGreatDoor
open Go.ChangeShapes Go.WideShapes Go.ChangeAt Go.RowKit Go.Joins Go.Deep
theorem u64_wf {x : Int} (h : (Lit.int .u64 x).wf = true) : 0 ≤ x ∧ x < 18446744073709551616 := by
  simp [Lit.wf, IntKind.min, IntKind.max, IntKind.signed, IntKind.bits] at h
  exact ⟨by omega, by omega⟩
structure RowsIn (w : World) (X : Option Addr) (n C k : Nat) (rows : List (List Int)) : Prop where
  len : rows.length = n
  cap : n ≤ C
  top : C ≤ 9223372036854775807
  each : ∀ r ∈ rows, r.length = k ∧ ∀ x ∈ r, i64In x
  ink : InK w X n k (intV rows.flatten)
section
variable {H : Type} {enc : TypeId × Value → H} {w : World} {base : Nat} {sp : Nat → Bool} {held : Bool} {fuel : Nat} {cs : List Value} {x : DataW H × List MemPlace}
theorem op_int {T : TypeId} (ht : Tryz.prog.underlying T = some (.int .i64)) (h : DataW.trod enc Tryz.prog w base sp held fuel T cs = some x) : ∃ a : Int, cs = [.int .i64 a] ∧ i64In a := by
  obtain ⟨n, e, _, hw⟩ := DataW.trod_int ht h
  exact ⟨n, e, i64_wf hw⟩
theorem op_u64 (h : DataW.trod enc Tryz.prog w base sp held fuel 33 cs = some x) : ∃ a : Int, cs = [.int .u64 a] ∧ (0 ≤ a ∧ a < 18446744073709551616) := by
  obtain ⟨n, e, _, hw⟩ := DataW.trod_int Tryz.underlying33 h
  exact ⟨n, e, u64_wf hw⟩
theorem op_str (h : DataW.trod enc Tryz.prog w base sp held fuel 9 cs = some x) : ∃ s : ByteArray, cs = [.string s] ∧ s.size ≤ 9223372036854775807 := by
  obtain ⟨s, e, _, hs⟩ := DataW.trod_string Tryz.underlying9 h
  exact ⟨s, e, by unfold maxLen at hs; omega⟩
theorem op_rows {T e k : Nat} (ht : Tryz.prog.underlying T = some (.slice e)) (hC : Tryz.prog.cellsOf e = k) (hk : 0 < k) (hO : ∀ sp held, OI enc w base sp held e k) (h : DataW.trod enc Tryz.prog w base sp held fuel T cs = some x) :
    ∃ (X : Option Addr) (n C : Nat) (rows : List (List Int)), cs = [.slice X n C] ∧ RowsIn w X n C k rows := by
  obtain ⟨X, C, rows, h1, h2, h3, h4, h5⟩ := open_rows ht hC hk hO h
  exact ⟨X, rows.length, C, rows, h1, rfl, h2, h3, h4, h5⟩
set_option maxRecDepth 100000 in
theorem op24 (h : DataW.trod enc Tryz.prog w base sp held fuel 30 cs = some x) : ∃ (a0 : Int) (a1 : ByteArray) (a2 : Int) (a3 : Int) (a4 : Int) (a5X : Option Addr) (a5n : Nat) (a5C : Nat) (a5r : List (List Int)), cs = [.int .i64 a0, .string a1, .int .i64 a2, .int .i64 a3, .int .i64 a4, .slice a5X a5n a5C] ∧ i64In a0 ∧ a1.size ≤ 9223372036854775807 ∧ i64In a2 ∧ i64In a3 ∧ i64In a4 ∧ RowsIn w a5X a5n a5C 2 a5r := by
  obtain ⟨xs, n, _, _, hlen, hxl, hf⟩ := DataW.trod_struct Tryz.underlying30 h
  have hC : Tryz.prog.cellsOf 30 = 6 := by kernel_rfl
  have hC2 : Tryz.prog.cellsOf 2 = 1 := by kernel_rfl
  have hC3 : Tryz.prog.cellsOf 3 = 1 := by kernel_rfl
  have hC9 : Tryz.prog.cellsOf 9 = 1 := by kernel_rfl
  have hC22 : Tryz.prog.cellsOf 28 = 1 := by kernel_rfl
  rw [hC] at hlen
  match cs, hlen, xs, hxl with
  | [c0, c1, c2, c3, c4, c5], _, [y0, y1, y2, y3, y4, y5], _ =>
    have k0 : DataW.trod enc Tryz.prog w base sp held n 3 ((([c0, c1, c2, c3, c4, c5] : List Value).drop 0).take (Tryz.prog.cellsOf 3)) = some y0 := hf 0 _ rfl
    rw [hC3] at k0
    obtain ⟨a0, e0, f0_0⟩ := op_int Tryz.underlying3 k0
    have k1 : DataW.trod enc Tryz.prog w base sp held n 9 ((([c0, c1, c2, c3, c4, c5] : List Value).drop 1).take (Tryz.prog.cellsOf 9)) = some y1 := hf 1 _ rfl
    rw [hC9] at k1
    obtain ⟨a1, e1, f1_0⟩ := op_str k1
    have k2 : DataW.trod enc Tryz.prog w base sp held n 2 ((([c0, c1, c2, c3, c4, c5] : List Value).drop 2).take (Tryz.prog.cellsOf 2)) = some y2 := hf 2 _ rfl
    rw [hC2] at k2
    obtain ⟨a2, e2, f2_0⟩ := op_int Tryz.underlying2 k2
    have k3 : DataW.trod enc Tryz.prog w base sp held n 2 ((([c0, c1, c2, c3, c4, c5] : List Value).drop 3).take (Tryz.prog.cellsOf 2)) = some y3 := hf 3 _ rfl
    rw [hC2] at k3
    obtain ⟨a3, e3, f3_0⟩ := op_int Tryz.underlying2 k3
    have k4 : DataW.trod enc Tryz.prog w base sp held n 3 ((([c0, c1, c2, c3, c4, c5] : List Value).drop 4).take (Tryz.prog.cellsOf 3)) = some y4 := hf 4 _ rfl
    rw [hC3] at k4
    obtain ⟨a4, e4, f4_0⟩ := op_int Tryz.underlying3 k4
    have k5 : DataW.trod enc Tryz.prog w base sp held n 28 ((([c0, c1, c2, c3, c4, c5] : List Value).drop 5).take (Tryz.prog.cellsOf 28)) = some y5 := hf 5 _ rfl
    rw [hC22] at k5
    obtain ⟨a5X, a5n, a5C, a5r, e5, f5_0⟩ := op_rows Tryz.underlying28 (by kernel_rfl) (by decide) (fun _ _ => oi99) k5
    refine ⟨a0, a1, a2, a3, a4, a5X, a5n, a5C, a5r, ?_, f0_0, f1_0, f2_0, f3_0, f4_0, f5_0⟩
    have hh : ([c0, c1, c2, c3, c4, c5] : List Value) = ((([c0, c1, c2, c3, c4, c5] : List Value).drop 0).take 1) ++ ((([c0, c1, c2, c3, c4, c5] : List Value).drop 1).take 1) ++ ((([c0, c1, c2, c3, c4, c5] : List Value).drop 2).take 1) ++ ((([c0, c1, c2, c3, c4, c5] : List Value).drop 3).take 1) ++ ((([c0, c1, c2, c3, c4, c5] : List Value).drop 4).take 1) ++ ((([c0, c1, c2, c3, c4, c5] : List Value).drop 5).take 1) := rfl
    rw [hh, e0, e1, e2, e3, e4, e5]
    rfl
set_option maxRecDepth 100000 in
theorem op26 (h : DataW.trod enc Tryz.prog w base sp held fuel 32 cs = some x) : ∃ (a0 : Int) (a1 : ByteArray) (a2 : Int) (a3 : Int) (a4 : Int) (a5 : Int), cs = [.int .i64 a0, .string a1, .int .i64 a2, .int .i64 a3, .int .i64 a4, .int .i64 a5] ∧ i64In a0 ∧ a1.size ≤ 9223372036854775807 ∧ i64In a2 ∧ i64In a3 ∧ i64In a4 ∧ i64In a5 := by
  obtain ⟨xs, n, _, _, hlen, hxl, hf⟩ := DataW.trod_struct Tryz.underlying32 h
  have hC : Tryz.prog.cellsOf 32 = 6 := by kernel_rfl
  have hC2 : Tryz.prog.cellsOf 2 = 1 := by kernel_rfl
  have hC3 : Tryz.prog.cellsOf 3 = 1 := by kernel_rfl
  have hC9 : Tryz.prog.cellsOf 9 = 1 := by kernel_rfl
  rw [hC] at hlen
  match cs, hlen, xs, hxl with
  | [c0, c1, c2, c3, c4, c5], _, [y0, y1, y2, y3, y4, y5], _ =>
    have k0 : DataW.trod enc Tryz.prog w base sp held n 3 ((([c0, c1, c2, c3, c4, c5] : List Value).drop 0).take (Tryz.prog.cellsOf 3)) = some y0 := hf 0 _ rfl
    rw [hC3] at k0
    obtain ⟨a0, e0, f0_0⟩ := op_int Tryz.underlying3 k0
    have k1 : DataW.trod enc Tryz.prog w base sp held n 9 ((([c0, c1, c2, c3, c4, c5] : List Value).drop 1).take (Tryz.prog.cellsOf 9)) = some y1 := hf 1 _ rfl
    rw [hC9] at k1
    obtain ⟨a1, e1, f1_0⟩ := op_str k1
    have k2 : DataW.trod enc Tryz.prog w base sp held n 2 ((([c0, c1, c2, c3, c4, c5] : List Value).drop 2).take (Tryz.prog.cellsOf 2)) = some y2 := hf 2 _ rfl
    rw [hC2] at k2
    obtain ⟨a2, e2, f2_0⟩ := op_int Tryz.underlying2 k2
    have k3 : DataW.trod enc Tryz.prog w base sp held n 2 ((([c0, c1, c2, c3, c4, c5] : List Value).drop 3).take (Tryz.prog.cellsOf 2)) = some y3 := hf 3 _ rfl
    rw [hC2] at k3
    obtain ⟨a3, e3, f3_0⟩ := op_int Tryz.underlying2 k3
    have k4 : DataW.trod enc Tryz.prog w base sp held n 3 ((([c0, c1, c2, c3, c4, c5] : List Value).drop 4).take (Tryz.prog.cellsOf 3)) = some y4 := hf 4 _ rfl
    rw [hC3] at k4
    obtain ⟨a4, e4, f4_0⟩ := op_int Tryz.underlying3 k4
    have k5 : DataW.trod enc Tryz.prog w base sp held n 3 ((([c0, c1, c2, c3, c4, c5] : List Value).drop 5).take (Tryz.prog.cellsOf 3)) = some y5 := hf 5 _ rfl
    rw [hC3] at k5
    obtain ⟨a5, e5, f5_0⟩ := op_int Tryz.underlying3 k5
    refine ⟨a0, a1, a2, a3, a4, a5, ?_, f0_0, f1_0, f2_0, f3_0, f4_0, f5_0⟩
    have hh : ([c0, c1, c2, c3, c4, c5] : List Value) = ((([c0, c1, c2, c3, c4, c5] : List Value).drop 0).take 1) ++ ((([c0, c1, c2, c3, c4, c5] : List Value).drop 1).take 1) ++ ((([c0, c1, c2, c3, c4, c5] : List Value).drop 2).take 1) ++ ((([c0, c1, c2, c3, c4, c5] : List Value).drop 3).take 1) ++ ((([c0, c1, c2, c3, c4, c5] : List Value).drop 4).take 1) ++ ((([c0, c1, c2, c3, c4, c5] : List Value).drop 5).take 1) := rfl
    rw [hh, e0, e1, e2, e3, e4, e5]
    rfl
set_option maxRecDepth 100000 in
theorem op29 (h : DataW.trod enc Tryz.prog w base sp held fuel 35 cs = some x) : ∃ (a0 : Int) (a1_0 : Int) (a1_1 : ByteArray) (a1_2 : Int) (a1_3 : Int) (a1_4 : Int) (a1_5X : Option Addr) (a1_5n : Nat) (a1_5C : Nat) (a1_5r : List (List Int)) (a2_0 : Int) (a2_1 : ByteArray) (a2_2 : Int) (a2_3 : Int) (a2_4 : Int) (a2_5 : Int) (a3 : ByteArray) (a4 : Int) (a5 : Int), cs = [.int .i64 a0, .int .i64 a1_0, .string a1_1, .int .i64 a1_2, .int .i64 a1_3, .int .i64 a1_4, .slice a1_5X a1_5n a1_5C, .int .i64 a2_0, .string a2_1, .int .i64 a2_2, .int .i64 a2_3, .int .i64 a2_4, .int .i64 a2_5, .string a3, .int .i64 a4, .int .u64 a5] ∧ i64In a0 ∧ i64In a1_0 ∧ a1_1.size ≤ 9223372036854775807 ∧ i64In a1_2 ∧ i64In a1_3 ∧ i64In a1_4 ∧ RowsIn w a1_5X a1_5n a1_5C 2 a1_5r ∧ i64In a2_0 ∧ a2_1.size ≤ 9223372036854775807 ∧ i64In a2_2 ∧ i64In a2_3 ∧ i64In a2_4 ∧ i64In a2_5 ∧ a3.size ≤ 9223372036854775807 ∧ i64In a4 ∧ (0 ≤ a5 ∧ a5 < 18446744073709551616) := by
  obtain ⟨xs, n, _, _, hlen, hxl, hf⟩ := DataW.trod_struct Tryz.underlying35 h
  have hC : Tryz.prog.cellsOf 35 = 16 := by kernel_rfl
  have hC2 : Tryz.prog.cellsOf 2 = 1 := by kernel_rfl
  have hC3 : Tryz.prog.cellsOf 3 = 1 := by kernel_rfl
  have hC9 : Tryz.prog.cellsOf 9 = 1 := by kernel_rfl
  have hC24 : Tryz.prog.cellsOf 30 = 6 := by kernel_rfl
  have hC26 : Tryz.prog.cellsOf 32 = 6 := by kernel_rfl
  have hC27 : Tryz.prog.cellsOf 33 = 1 := by kernel_rfl
  rw [hC] at hlen
  match cs, hlen, xs, hxl with
  | [c0, c1, c2, c3, c4, c5, c6, c7, c8, c9, c10, c11, c12, c13, c14, c15], _, [y0, y1, y2, y3, y4, y5], _ =>
    have k0 : DataW.trod enc Tryz.prog w base sp held n 3 ((([c0, c1, c2, c3, c4, c5, c6, c7, c8, c9, c10, c11, c12, c13, c14, c15] : List Value).drop 0).take (Tryz.prog.cellsOf 3)) = some y0 := hf 0 _ rfl
    rw [hC3] at k0
    obtain ⟨a0, e0, f0_0⟩ := op_int Tryz.underlying3 k0
    have k1 : DataW.trod enc Tryz.prog w base sp held n 30 ((([c0, c1, c2, c3, c4, c5, c6, c7, c8, c9, c10, c11, c12, c13, c14, c15] : List Value).drop 1).take (Tryz.prog.cellsOf 30)) = some y1 := hf 1 _ rfl
    rw [hC24] at k1
    obtain ⟨a1_0, a1_1, a1_2, a1_3, a1_4, a1_5X, a1_5n, a1_5C, a1_5r, e1, f1_0, f1_1, f1_2, f1_3, f1_4, f1_5⟩ := op24 k1
    have k2 : DataW.trod enc Tryz.prog w base sp held n 32 ((([c0, c1, c2, c3, c4, c5, c6, c7, c8, c9, c10, c11, c12, c13, c14, c15] : List Value).drop 7).take (Tryz.prog.cellsOf 32)) = some y2 := hf 2 _ rfl
    rw [hC26] at k2
    obtain ⟨a2_0, a2_1, a2_2, a2_3, a2_4, a2_5, e2, f2_0, f2_1, f2_2, f2_3, f2_4, f2_5⟩ := op26 k2
    have k3 : DataW.trod enc Tryz.prog w base sp held n 9 ((([c0, c1, c2, c3, c4, c5, c6, c7, c8, c9, c10, c11, c12, c13, c14, c15] : List Value).drop 13).take (Tryz.prog.cellsOf 9)) = some y3 := hf 3 _ rfl
    rw [hC9] at k3
    obtain ⟨a3, e3, f3_0⟩ := op_str k3
    have k4 : DataW.trod enc Tryz.prog w base sp held n 2 ((([c0, c1, c2, c3, c4, c5, c6, c7, c8, c9, c10, c11, c12, c13, c14, c15] : List Value).drop 14).take (Tryz.prog.cellsOf 2)) = some y4 := hf 4 _ rfl
    rw [hC2] at k4
    obtain ⟨a4, e4, f4_0⟩ := op_int Tryz.underlying2 k4
    have k5 : DataW.trod enc Tryz.prog w base sp held n 33 ((([c0, c1, c2, c3, c4, c5, c6, c7, c8, c9, c10, c11, c12, c13, c14, c15] : List Value).drop 15).take (Tryz.prog.cellsOf 33)) = some y5 := hf 5 _ rfl
    rw [hC27] at k5
    obtain ⟨a5, e5, f5_0⟩ := op_u64 k5
    refine ⟨a0, a1_0, a1_1, a1_2, a1_3, a1_4, a1_5X, a1_5n, a1_5C, a1_5r, a2_0, a2_1, a2_2, a2_3, a2_4, a2_5, a3, a4, a5, ?_, f0_0, f1_0, f1_1, f1_2, f1_3, f1_4, f1_5, f2_0, f2_1, f2_2, f2_3, f2_4, f2_5, f3_0, f4_0, f5_0⟩
    have hh : ([c0, c1, c2, c3, c4, c5, c6, c7, c8, c9, c10, c11, c12, c13, c14, c15] : List Value) = ((([c0, c1, c2, c3, c4, c5, c6, c7, c8, c9, c10, c11, c12, c13, c14, c15] : List Value).drop 0).take 1) ++ ((([c0, c1, c2, c3, c4, c5, c6, c7, c8, c9, c10, c11, c12, c13, c14, c15] : List Value).drop 1).take 6) ++ ((([c0, c1, c2, c3, c4, c5, c6, c7, c8, c9, c10, c11, c12, c13, c14, c15] : List Value).drop 7).take 6) ++ ((([c0, c1, c2, c3, c4, c5, c6, c7, c8, c9, c10, c11, c12, c13, c14, c15] : List Value).drop 13).take 1) ++ ((([c0, c1, c2, c3, c4, c5, c6, c7, c8, c9, c10, c11, c12, c13, c14, c15] : List Value).drop 14).take 1) ++ ((([c0, c1, c2, c3, c4, c5, c6, c7, c8, c9, c10, c11, c12, c13, c14, c15] : List Value).drop 15).take 1) := rfl
    rw [hh, e0, e1, e2, e3, e4, e5]
    rfl
end
end Go.Proofs.YtbiedfkmmcaplaaGreatDoor
