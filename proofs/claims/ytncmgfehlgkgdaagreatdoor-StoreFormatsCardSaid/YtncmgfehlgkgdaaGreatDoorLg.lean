/- slices.Equal of blocks at this program, of blocks that are the same. page.Greatest at this program. Rows of pages whose number is known by name alone: which calls are known ahead. -/
import Derived.Test.YtncmgfehlgkgdaaGreatDoorCr
import Derived.Deep.MidRow
import Derived.DeepKeys
import Derived.Deep.Slices
import Derived.Test.YtncmgfehlgkgdaaGreatDoorOkX
import Derived.Test.YtncmgfehlgkgdaaGreatDoorOkC
set_option linter.unusedSimpArgs false
set_option linter.unusedVariables false
set_option linter.unusedSectionVars false
namespace Go.Proofs.YtncmgfehlgkgdaaGreatDoor
open Go.RowKit
attribute [local go_sem] Oper.semAt_some

theorem kt128 : Tryz.prog.keyTypeAt 6 128 = true := by kernel_rfl
theorem eg128 : Tryz.prog.eqGuardType Tryz.prog.depth 128 = false := by kernel_rfl
theorem inf128 : (Tryz.prog.info? 128).map (·.size) = some 132 := by kernel_rfl
theorem desc128 : (Tryz.prog.underlying 128).map TypeDesc.isRow = some true := by kernel_rfl
theorem desc128' : ∃ d, Tryz.prog.underlying 128 = some d ∧ d.isRow = true := by
  have := desc128
  cases h : Tryz.prog.underlying 128 with
  | none => rw [h] at this; cases this
  | some d => rw [h] at this; exact ⟨d, rfl, by simpa using this⟩

theorem load128 {w : World} {b o : Nat} {cs : List Value} (h : w.rangeAt b o cs) (hl : cs.length = 132) :
    (Instr.loadAt 128 (.pointer (some ⟨b, o, none⟩))).run Tryz.prog w = .ok (.agg cs.toArray) w := by
  obtain ⟨d, h1, h2⟩ := desc128'
  exact run_loadAt_mid w b o 128 cs d h h1 h2 (by rw [inf128, hl])

theorem range_below {w w' : World} {b o : Nat} {cs : List Value} (h : w.rangeAt b o cs) (hl : 0 < cs.length) (hb : Below w.heap.size w w') : w'.rangeAt b o cs := by
  have hlt : b < w.heap.size := by
    have := h 0 (cs[0]) (by simp)
    simp only [World.cell?] at this
    rcases Nat.lt_or_ge b w.heap.size with h1 | h1
    · exact h1
    · rw [Array.getElem?_eq_none h1] at this; cases this
  intro j v hv
  have := h j v hv
  simp only [World.cell?] at this ⊢
  rw [hb.block b hlt]
  exact this

theorem neq128 {cs : List Value} {lx : List Lit} (hl : cs.length = 132) (hk : Tryz.prog.keyLits 6 128 cs = some lx) (w : World) (x y : Operand) :
    (do eqGuard .neq 128 x y (.agg cs.toArray) (.agg cs.toArray); binOp .neq 128 (.agg cs.toArray) (.agg cs.toArray)).run Tryz.prog w = .ok (.bool false) w := by
  have hf : (Value.agg cs.toArray).formed Tryz.prog 128 = true := by
    have : (Tryz.prog.underlying 128).isSome = true := by kernel_rfl
    have hd : ∃ n e, Tryz.prog.underlying 128 = some (.array n e) := ⟨_, _, Tryz.underlying128⟩
    obtain ⟨n, e, hd⟩ := hd
    have hc : Tryz.prog.cellsOf 128 = 132 := by kernel_rfl
    simp [Value.formed, hd, hc, hl]
  obtain ⟨r, hr, hiff⟩ := run_equalIn_deep (P := Tryz.prog) 9994 6 128 kt128 w 6 6 (.agg cs.toArray) (.agg cs.toArray) lx lx hf hf (by simpa [Value.cells] using hk) (by simpa [Value.cells] using hk)
  have hrt : r = true := hiff.2 rfl
  subst hrt
  rw [Sem.run_bind, run_eqGuard_agg w .neq 128 x y cs.toArray cs.toArray eg128, Result.andThen_ok, run_neq_struct, hr]
  rfl

theorem exec_load {ρ : Operand → Value} {o : Oper} {ty : TypeId} {x : Operand} {v : Value} {w : World} (ho : o.op = .load ty x) (h : (Instr.loadAt ty (ρ x)).run Tryz.prog w = .ok v w) :
    (execOp ρ o).run Tryz.prog w = .ok (.value v) w := by
  unfold execOp
  simp only [ho, Sem.run_bind, h, Result.andThen_ok, Sem.run_pure]
theorem exec_bin {ρ : Operand → Value} {o : Oper} {op : BinOp} {t t2 : TypeId} {x y : Operand} {v : Value} {w : World} (ho : o.op = .binOp op t x y t2) (h : (do eqGuard op t x y (ρ x) (ρ y); binOp op t (ρ x) (ρ y)).run Tryz.prog w = .ok v w) :
    (execOp ρ o).run Tryz.prog w = .ok (.value v) w := by
  unfold execOp
  simp only [ho]
  have := h
  simp only [Sem.run_bind, Sem.run_pure] at this ⊢
  rw [this]
  rfl

set_option maxRecDepth 100000 in
set_option maxHeartbeats 1000000 in
theorem equal_block (a b N : Nat) (hN : N ≤ 256) (rows : Nat → List Value) (w : World)
    (hr : ∀ k, k < N → (rows k).length = 132 ∧ w.rangeAt a (k * 132) (rows k) ∧ w.rangeAt b (k * 132) (rows k) ∧ ∃ lx, Tryz.prog.keyLits 6 128 (rows k) = some lx) :
    Calls Tryz.prog 37 #[.slice (some ⟨a, 0, none⟩) N N, .slice (some ⟨b, 0, none⟩) N N] w fun e w' => e = .returned (.bool true) ∧ Below w.heap.size w w' := by
  have HC := hide hr
  clear hr
  go_enter Tryz.func37, Tryz.ntmps37
  go_wp2_with fail
  go_loopw [13] (fun vi wr => ∃ k : Nat, vi = .int .i64 k ∧ k ≤ N ∧ Below w.heap.size w wr) (fun vi _ => N - (intOf vi).toNat)
  case atStart => exact ⟨0, rfl, by omega, (b0 w)⟩
  case round =>
    obtain ⟨k, rfl, hk, hb⟩ := hrel
    by_cases hlt : k < N
    · obtain ⟨q1, q2, q3, lx, q4⟩ := HC.out k hlt
      have HQ := hide q1
      have q2' := range_below q2 (by omega) hb
      have q3' := range_below q3 (by omega) hb
      have HN := hide (neq128 q1 q4)
      generalize rows k = cs at *
      clear q1 q2 q3 q4
      go_wp2_with fail
      refine Abs.wp_region_abs (Abs.cls0 _) [0, 1, 2, 3, 4, 5, 6, 7, 8] (by kernel_rfl) (by kernel_rfl) (Below.refl _ _).drew ?_
      refine Abs.step_pure rfl rfl (fun K hK => ?_); go_simp; refine hK _ _ ?_; clear hK K
      refine Abs.step_pure rfl rfl (fun K hK => ?_); go_simp; refine hK _ _ ?_; clear hK K
      refine Abs.step_pure rfl rfl (fun K hK => ?_); go_simp; refine hK _ _ ?_; clear hK K
      refine Abs.step_load (v := .agg cs.toArray) rfl rfl (by kernel_rfl) rfl (fun w0 hI => ?_) (fun K hK => ?_)
      · have q := range_below q2' (by have := HQ.out; omega) hI; exact exec_load rfl (load128 q HQ.out)
      simp only [Act.put, List.setIfInBounds_toArray, List.set_cons_zero, List.set_cons_succ]; refine hK _ _ ?_; clear hK K
      refine Abs.step_pure rfl rfl (fun K hK => ?_); go_simp; refine hK _ _ ?_; clear hK K
      refine Abs.step_pure rfl rfl (fun K hK => ?_); go_simp; refine hK _ _ ?_; clear hK K
      refine Abs.step_pure rfl rfl (fun K hK => ?_); go_simp; refine hK _ _ ?_; clear hK K
      refine Abs.step_load (v := .agg cs.toArray) rfl rfl (by kernel_rfl) rfl (fun w0 hI => ?_) (fun K hK => ?_)
      · have q := range_below q3' (by have := HQ.out; omega) hI; exact exec_load rfl (load128 q HQ.out)
      simp only [Act.put, List.setIfInBounds_toArray, List.set_cons_zero, List.set_cons_succ]; refine hK _ _ ?_; clear hK K
      refine Abs.step_pure rfl rfl (fun K hK => ⟨.bool false, fun w0 => exec_bin rfl (HN.out w0 _ _), ?_⟩)
      simp only [Act.put, List.setIfInBounds_toArray, List.set_cons_zero, List.set_cons_succ]; refine hK _ _ ?_; clear hK K
      intro w3 hb3 hx0 hx1 hx2
      clear hx0 hx1 hx2
      simp only [Abs.T_setF, Abs.T_addA, Abs.T_push, Abs.T_start]
      have hB3 := bB hb hb3
      go_wp2
      go_roundw
      case rel => exact ⟨k + 1, by go_num, by omega, hB3⟩
      case measure => simp [intOf]; omega
    · obtain rfl : k = N := by omega
      go_wp2
      go_ret
      exact ⟨rfl, hb⟩
end Go.Proofs.YtncmgfehlgkgdaaGreatDoor

namespace Go.Proofs.YtncmgfehlgkgdaaGreatDoor
open Go.RowKit Go.Proofs.Ex
attribute [local go_sem] Oper.semAt_some

local instance noSg : Sg := ⟨fun _ => none⟩

theorem exec_alloc {ρ : Operand → Value} {o : Oper} {t : TypeId} {ti : TI} (T : TIok Tryz.prog t ti) (ho : o.op = .alloc t) (w : World) :
    (execOp ρ o).run Tryz.prog w = .ok (.value (.pointer (some ⟨w.heap.size, 0, none⟩))) (w.alloc (.cells ti.zero.cells t (0, 0))) := by
  unfold execOp
  simp only [ho]
  unfold Instr.alloc
  rw [Sem.run_bind, Sem.run_bind, T.zeroRun w]
  rfl

theorem wpl {ops : Array Oper} {rest : List Oper} {op : Oper} {a : Act} {w w1 : World} {v : Value} {Q : Exit → Act → World → Prop} (hgd : op.guard = none) (h : (execOp a.eval op).run Tryz.prog w = .ok (.value v) w1)
    (hk : wpList Tryz.prog ops Q rest (a.put op.dst v) w1) : wpList Tryz.prog ops Q (op :: rest) a w :=
  wpList_plain hgd fun K hK => by
    unfold Oper.wp
    rw [h]
    exact hK _ _ hk

/-- a new block, and what is laid into it whole -/
theorem alloc_store {t : TypeId} {ti : TI} (T : TIok Tryz.prog t ti) {cs : List Value} (hl : cs.length = ti.size) (h1 : ∀ v ∈ cs, v.oneCell' = true) (w : World) :
    ∃ w', (Instr.storeAt t (.pointer (some ⟨w.heap.size, 0, none⟩)) (.agg cs.toArray)).run Tryz.prog (w.alloc (.cells ti.zero.cells t (0, 0))) = .ok () w' ∧ Below w.heap.size w w' ∧ w'.rangeAt w.heap.size 0 cs := by
  have hz := T.zsize
  obtain ⟨i, hi, hs, _⟩ := T.info
  have hg : (w.alloc (.cells ti.zero.cells t (0, 0))).heap[w.heap.size]? = some (.cells ti.zero.cells t (0, 0)) := na w ti.zero.cells t
  obtain ⟨p, q, r, s, u, v⟩ := setCells_heap w.heap.size cs 0 _ _ _ _ hg
  refine ⟨_, run_storeAt_mid (P := Tryz.prog) _ w.heap.size 0 t cs.toArray (fun j hj => ?_) (by rw [hi]; simp [hs, hl]) (all_oneCell_toArray h1), ?_, ?_⟩
  · have : j < ti.zero.cells.size := by simp at hj; omega
    constructor
    · unfold World.cell?
      simp only [hg, Nat.zero_add]
      rw [Array.getElem?_eq_getElem this]
      rfl
    · unfold World.frozen?
      simp only [hg, Nat.zero_add]
      simp
  · have b1 : Below w.heap.size w (w.alloc (.cells ti.zero.cells t (0, 0))) := bA (b0 w) _
    have : cs.toArray.toList = cs := by simp
    rw [this]
    exact ⟨s.trans b1.os, u.trans b1.tape, v.trans b1.output, by rw [r]; exact b1.size, fun k hk => (q k (by omega)).trans (b1.block k hk)⟩
  · intro j v hv
    have : cs.toArray.toList = cs := by simp
    have hj : j < cs.length := (List.getElem?_eq_some_iff.1 hv).1
    rw [this, World.cell?, p]
    show (setAll ti.zero.cells 0 cs)[0 + j]? = some v
    rw [setAll_get _ _ _ _ (by omega), if_pos (by omega)]
    simpa using hv

theorem exec_index128 {ρ : Operand → Value} {o : Oper} {x i : Operand} {cs : List Value} {s : Nat} (w : World) (ho : o.op = .index 128 x i) (hx : ρ x = .agg cs.toArray) (hi : ρ i = .int .i64 s) (hs : s < 4) (hl : cs.length = 132) :
    (execOp ρ o).run Tryz.prog w = .ok (.value (.agg ((cs.drop (s * 33)).take 33).toArray)) w := by
  have T := Tryz.xk126
  unfold execOp
  simp only [ho, hx, hi]
  have hd : Tryz.prog.underlying 128 = some (.array 4 126) := Tryz.underlying128
  have hag : (isAgg 126).run Tryz.prog w = .ok true w := T.isAgg w
  have hsz : (sizeOf 126).run Tryz.prog w = .ok 33 w := T.size w
  have h4 : (0 : Int) ≤ (s : Int) ∧ (s : Int) < 4 := ⟨by omega, by omega⟩
  have hext : cs.toArray.extract (s * 33) (s * 33 + 33) = ((cs.drop (s * 33)).take 33).toArray := by
    simp [List.extract]
  simp [Instr.index, asIntOf, run_underlying hd, h4, hsz, part, hag, hext, Sem.run_bind]
  intro h; omega

/-- the greater one, again and again -/
def mx (o : Nat) (f : Nat → Nat) : Nat → Nat
  | 0 => o
  | s + 1 => max (mx o f s) (f s)
def gout (st : Nat → Nat → Nat) : Nat → Nat
  | 0 => 0
  | k + 1 => mx (gout st k) (st k) 4

theorem wpls {ops : Array Oper} {rest : List Oper} {op : Oper} {a : Act} {w w1 : World} {ty : TypeId} {x y : Operand} {Q : Exit → Act → World → Prop} (hgd : op.guard = none) (ho : op.op = .store ty x y) (h : (Instr.storeAt ty (a.eval x) (a.eval y)).run Tryz.prog w = .ok () w1)
    (hk : wpList Tryz.prog ops Q rest (a.put op.dst undef) w1) : wpList Tryz.prog ops Q (op :: rest) a w :=
  wpList_plain hgd fun K hK => by
    unfold Oper.wp execOp
    simp only [ho, Sem.run_bind, h, Result.andThen_ok, Sem.run_pure]
    exact hK _ _ hk

theorem cell_range {w : World} {b o : Nat} {cs : List Value} (h : w.rangeAt b o cs) {j : Nat} {v : Value} (hv : cs[j]? = some v) : w.cell? ⟨b, o + j, none⟩ = some v := h j v hv

set_option maxRecDepth 100000 in
set_option maxHeartbeats 1000000 in
theorem page_Greatest (b N : Nat) (hN : N ≤ 256) (rows : Nat → List Value) (st : Nat → Nat → Nat) (w : World)
    (hr : ∀ k, k < N → (rows k).length = 132 ∧ w.rangeAt b (k * 132) (rows k) ∧ (∀ v ∈ rows k, v.oneCell' = true) ∧ ∀ s, s < 4 → (rows k)[s * 33]? = some (.int .u64 (st k s))) :
    Calls Tryz.prog 59 #[.slice (some ⟨b, 0, none⟩) N N] w fun e w' => e = .returned (.int .u64 (gout st N)) ∧ Below w.heap.size w w' := by
  have HC := hide hr
  clear hr
  go_enter Tryz.func59, Tryz.ntmps59
  go_wp2_with fail
  go_loopw [3, 5, 7, 10] (fun vo _ _ vi wr => ∃ k : Nat, vi = .int .i64 k ∧ k ≤ N ∧ vo = .int .u64 (gout st k) ∧ Below w.heap.size w wr) (fun _ _ _ vi _ => N - (intOf vi).toNat)
  case atStart => exact ⟨0, rfl, by omega, rfl, (b0 w)⟩
  case round =>
    obtain ⟨k, rfl, hk, rfl, hb⟩ := hrel
    by_cases hlt : k < N
    · obtain ⟨q1, q2, q3, q4⟩ := HC.out k hlt
      have HQ := hide q1
      have H1 := hide q3
      have HS := hide q4
      have HG : Hid (gout st (k + 1) = mx (gout st k) (st k) 4) := hide rfl
      generalize gout st k = oo at *
      obtain ⟨oo', hoo⟩ : ∃ x, x = gout st (k + 1) := ⟨_, rfl⟩
      rw [← hoo] at HG
      have HO := hide hoo
      clear hoo
      have q2' := hide (range_below q2 (by omega) hb)
      generalize rows k = cs at *
      generalize st k = f at *
      clear q1 q2 q3 q4
      go_simp
      iterate 17 (try go_step)
      refine wp_region_lit ?_
      refine wpl (v := .pointer (some ⟨b, k * 132, none⟩)) (w1 := wr) rfl (by go_simp) ?_
      simp only [Act.put, List.setIfInBounds_toArray, List.set_cons_zero, List.set_cons_succ]
      refine wpl rfl (exec_load rfl (load128 q2'.out HQ.out)) ?_
      simp only [Act.put, List.setIfInBounds_toArray, List.set_cons_zero, List.set_cons_succ]
      refine wpl rfl (exec_alloc Tryz.xk128 rfl _) ?_
      simp only [Act.put, List.setIfInBounds_toArray, List.set_cons_zero, List.set_cons_succ]
      obtain ⟨w1, s1, s2, s3⟩ := alloc_store Tryz.xk128 HQ.out H1.out wr
      refine wpls rfl rfl s1 ?_
      refine wpList_nil ?_
      have hB1 := bB hb s2
      generalize hw1 : wr.heap.size = h1 at *
      clear s1 s2
      have S3 := hide s3
      clear s3
      iterate 3 (try go_step)
      refine wp_region_lit ?_
      simp only [Act.put]
      refine wpl rfl (exec_load rfl (load128 S3.out HQ.out)) ?_
      simp only [Act.put, List.setIfInBounds_toArray, List.set_cons_zero, List.set_cons_succ]
      go_wp2_with fail
      go_loopw [3, 7, 15] (fun vo _ vs wr' => ∃ s : Nat, vs = .int .i64 s ∧ s ≤ 4 ∧ vo = .int .u64 (mx oo f s) ∧ Below w.heap.size w wr') (fun _ _ vi _ => 4 - (intOf vi).toNat)
      case atStart => exact ⟨0, rfl, by omega, rfl, hB1⟩
      case round =>
        obtain ⟨s, rfl, hs, rfl, hb2⟩ := hrel
        by_cases hlt4 : s < 4
        · have HF := hide (HS.out s hlt4)
          obtain ⟨p, hp⟩ : ∃ p, p = mx oo f s := ⟨_, rfl⟩
          have HM : Hid (mx oo f (s + 1) = max p (f s)) := hide (by rw [hp]; rfl)
          rw [← hp]
          clear hp
          go_simp
          iterate 17 (try go_step)
          refine wp_region_lit ?_
          refine wpl rfl (exec_index128 _ rfl rfl rfl hlt4 HQ.out) ?_
          simp only [Act.put, List.setIfInBounds_toArray, List.set_cons_zero, List.set_cons_succ]
          refine wpl rfl (exec_alloc Tryz.xk126 rfl _) ?_
          simp only [Act.put, List.setIfInBounds_toArray, List.set_cons_zero, List.set_cons_succ]
          obtain ⟨w2, s1, s2, s3⟩ := alloc_store (cs := (cs.drop (s * 33)).take 33) Tryz.xk126 (by have := HQ.out; simp only [List.length_take, List.length_drop]; show min 33 (cs.length - s * 33) = 33; omega)
            (fun v hv => H1.out v (List.mem_of_mem_drop (List.mem_of_mem_take hv))) wr
          refine wpls rfl rfl s1 ?_
          refine wpList_nil ?_
          have hB2 := bB hb2 s2
          have hc : w2.cell? ⟨wr.heap.size, 0, none⟩ = some (.int .u64 (f s)) := by
            have := s3 0 (.int .u64 (f s)) (by
              have e := HF.out
              rw [List.getElem?_take, if_pos (by omega), List.getElem?_drop]
              exact e)
            simpa using this
          generalize wr.heap.size = h2 at *
          clear s1 s2 s3
          simp only [Act.put]
          rcases Nat.lt_or_ge p (f s) with hgt | hge
          · have e1 : ((f s : Int) > (p : Int)) = True := by simp; omega
            go_wp2
            go_roundw
            case rel => exact ⟨.int .u64 (f s), _, .int .i64 ((s + 1 : Nat) : Int), ⟨s + 1, rfl, by omega, by rw [HM.out, Nat.max_eq_right (by omega)], hB2⟩, _, _, _, _, _, _, _, rfl⟩
            case measure => simp [intOf]; omega
          · have e1 : ((f s : Int) > (p : Int)) = False := by simp; omega
            go_wp2
            go_roundw
            case rel => exact ⟨.int .u64 p, _, .int .i64 ((s + 1 : Nat) : Int), ⟨s + 1, rfl, by omega, by rw [HM.out, Nat.max_eq_left (by omega)], hB2⟩, _, _, _, _, _, _, _, rfl⟩
            case measure => simp [intOf]; omega
        · obtain rfl : s = 4 := by omega
          go_wp2
          go_roundw
          case rel => exact ⟨.int .u64 (mx oo f 4), _, _, .int .i64 ((k + 1 : Nat) : Int), ⟨k + 1, rfl, by omega, by rw [← HO.out, HG.out], hb2⟩, _, _, _, _, _, _, _, _, _, _, _, _, _, rfl⟩
          case measure => simp [intOf]; omega
    · obtain rfl : k = N := by omega
      go_wp2
      go_ret
      exact ⟨rfl, hb⟩
end Go.Proofs.YtncmgfehlgkgdaaGreatDoor

namespace Go.Proofs.Tryz
open Go.Proofs.Ex Go.RowKit Go.Proofs.YtncmgfehlgkgdaaGreatDoor

variable [Sg]
/-- are all places below m? -/
def keysLt (m : Nat) : Tr Value → Nat → Nat → Bool
  | .nil, _, _ => true
  | .node l v r, a, b => (match v with | none => true | some _ => Nat.blt b m) && keysLt m l (2 * a) (a + b) && keysLt m r (2 * a) (2 * a + b)
theorem keysLt_all (m : Nat) : ∀ (t : Tr Value) (a b : Nat), keysLt m t a b = true → Tr.AllAt (fun n _ => n < m) a b t := by
  intro t
  induction t with
  | nil => intro a b _; trivial
  | node l v r ihl ihr =>
    intro a b h
    simp only [keysLt, Bool.and_eq_true] at h
    refine ⟨fun x hx => ?_, ihl _ _ h.1.2, ihr _ _ h.2⟩
    subst hx
    have := h.1.1
    simpa [Nat.blt_eq] using this
theorem keysLt_get {m : Nat} {t : Tr Value} (h : keysLt m t 1 0 = true) {n : Nat} (hn : m ≤ n) : t.get n = none := by
  cases hg : t.get n with
  | none => rfl
  | some v =>
    have := Tr.AllAt.get t 1 0 (keysLt_all m t 1 0 h) n v hg
    simp at this
    omega

noncomputable def rowA (c : Tr Value) (z : List Value) (k : Nat) : Option (List Value) := readN c z 132 3168 132 (k * 132)
noncomputable def rowF (c : Tr Value) (z : List Value) (k : Nat) : List Value := bif Nat.blt k 24 then (match rowA c z k with | some l => l | none => []) else z
noncomputable def lgRows (p : List Value → Bool) (c : Tr Value) (z : List Value) : Bool :=
  Nat.beq z.length 132 && allClosed z && p z && keysLt 3168 c 1 0 && (List.range 24).all fun k => match rowA c z k with | some l => allClosed l && p l | none => false

theorem rows_p {p : List Value → Bool} {c : Tr Value} {z : List Value} (h : lgRows p c z = true) (k : Nat) : p (rowF c z k) = true := by
  simp only [lgRows, Bool.and_eq_true, List.all_eq_true, List.mem_range] at h
  obtain ⟨⟨⟨⟨h1, h2⟩, h3⟩, h4⟩, h5⟩ := h
  unfold rowF
  cases hk : Nat.blt k 24 with
  | true =>
    have := h5 k (by simpa [Nat.blt_eq] using hk)
    simp only [cond_true]
    split at this
    · rename_i l hl
      simp only [Bool.and_eq_true] at this
      exact this.2
    · cases this
  | false => exact h3

theorem closed_one {v : Value} (h : closed v = true) (hf : flat v = true) : v.oneCell' = true := by
  cases v <;> first | rfl | cases hf | (simp [closed, closedN] at h)

theorem rows_of {p : List Value → Bool} {E : Env} {h : Tr AO} {w : World} (hr : HR E h w) {id b j : Nat} {c : Tr Value} {z : List Value} {e : TypeId} (hg : h.get id = some (.long c z 132 132 j e)) (hb : E.ρ id = some b)
    (hc : lgRows p c z = true) {N : Nat} (hN : Sg.σ j = some (.int .i64 (N : Int))) : ∀ k, k < N → (rowF c z k).length = 132 ∧ w.rangeAt b (k * 132) (rowF c z k) := by
  obtain ⟨c', N', hw, hs, h24, hcr, hsz⟩ := hr.atLong hg hb
  have hNN : N' = N := by
    rw [hN] at hs
    have := (Option.some.inj hs)
    injection this with _ this
    omega
  subst hNN
  simp only [lgRows, Bool.and_eq_true, List.all_eq_true, List.mem_range] at hc
  obtain ⟨⟨⟨⟨h1, h2⟩, h3⟩, h4⟩, h5⟩ := hc
  have hz : z.length = 132 := Nat.eq_of_beq_eq_true h1
  intro k hk
  unfold rowF
  cases hkb : Nat.blt k 24 with
  | true =>
    have hk24 : k < 24 := by simpa [Nat.blt_eq] using hkb
    have := h5 k hk24
    simp only [cond_true]
    split at this
    · rename_i l hl
      simp only [Bool.and_eq_true] at this
      have hless := hcr.less (show 3168 ≤ N' * 132 by omega)
      obtain ⟨l', g1, g2, g3⟩ := readN_spec hless _ _ _ hl
      have e1 := g2.eq this.1
      subst e1
      refine ⟨g1, fun j v hv => ?_⟩
      unfold World.cell?
      rw [hw]
      exact g3 j v hv
    · cases this
  | false =>
    have hk24 : ¬ k < 24 := fun hh => by
      have : Nat.blt k 24 = true := by simpa [Nat.blt_eq] using hh
      rw [hkb] at this; cases this
    refine ⟨hz, fun j v hv => ?_⟩
    have hj : j < 132 := by rw [← hz]; exact (List.getElem?_eq_some_iff.1 hv).1
    have hcell : cellAt c z 132 (N' * 132) (k * 132 + j) = some v := by
      unfold cellAt
      have hlt : k * 132 + j < N' * 132 := by omega
      have : Nat.blt (k * 132 + j) (N' * 132) = true := by simpa [Nat.blt_eq] using hlt
      rw [this]
      simp only [cond_true]
      rw [keysLt_get h4 (by omega)]
      have hm : (k * 132 + j) % 132 = j := by omega
      simp only [hm]
      exact hv
    obtain ⟨v', q1, q2⟩ := hcr.2 _ _ hcell
    have hcl : closed v = true := by
      clear h3 h4 h5 h1 hcell hg hz q1 q2 hcr hsz
      induction z generalizing j with
      | nil => simp at hv
      | cons u z ih =>
        simp only [allClosed, Bool.and_eq_true] at h2
        cases j with
        | zero => simp at hv; subst hv; exact h2.1
        | succ j => exact ih h2.2 j (by simpa using hv) (by omega)
    rw [q2.eq hcl] at q1
    unfold World.cell?
    rw [hw]
    exact q1

noncomputable def pEq (l : List Value) : Bool := (prog.keyLits 6 128 l).isSome
noncomputable def stIs : Option Value → Option Nat
  | some (.int .u64 (.ofNat n)) => some n
  | _ => none
noncomputable def stOf (l : List Value) (s : Nat) : Nat := match stIs l[s * 33]? with | some n => n | none => 0
noncomputable def pGr (l : List Value) : Bool := l.all flat && (List.range 4).all fun s => (stIs l[s * 33]?).isSome

noncomputable def eqO (args : List Value) (h : Tr AO) : Option Value :=
  match args with
  | [.complex .f32 a j, .complex .f32 b k] => (match h.get a, h.get b with
    | some (.long c z zs es i _), some (.long c2 z2 zs2 es2 i2 _) =>
      bif Nat.beq zs 132 && Nat.beq es 132 && Nat.beq zs2 132 && Nat.beq es2 132 && Nat.beq i j && Nat.beq i2 j && Nat.beq k j && eqTV c c2 && veqN.veqL 5 z z2 && lgRows pEq c z then some (.bool true) else none
    | _, _ => none)
  | _ => none
noncomputable def grO (args : List Value) (h : Tr AO) : Option Value :=
  match args with
  | [.complex .f32 b j] => (match h.get b with
    | some (.long c z zs es i _) =>
      bif Nat.beq zs 132 && Nat.beq es 132 && Nat.beq i j && lgRows pGr c z && (List.range 4).all (fun s => Nat.beq (stOf z s) 0) then some (.int .u64 (gout (fun k s => stOf (rowF c z k) s) 24)) else none
    | _ => none)
  | _ => none

theorem sg_len {E : Env} {b j : Nat} {v : Value} (h : VR E (.complex .f32 b j) v) : ∃ b' N : Nat, v = .slice (some ⟨b', 0, none⟩) N N ∧ E.ρ b = some b' ∧ Sg.σ j = some (.int .i64 (N : Int)) ∧ 24 ≤ N ∧ N ≤ 256 := by
  cases h with
  | long h1 h2 h3 h4 => exact ⟨_, _, rfl, h1, h2, h3, h4⟩

theorem eqO_ok {args : List Value} {h : Tr AO} {v : Value} (ho : eqO args h = some v) (E : Env) (w : World) (args' : List Value) (hr : HR E h w) (ha : LR E args args') :
    Calls prog 37 args'.toArray w fun e w' => ∃ v', e = .returned v' ∧ VR E v v' ∧ Below w.heap.size w w' := by
  unfold eqO at ho
  split at ho
  · rename_i a j b k
    obtain ⟨x, t1, rfl, r1, ht1⟩ := ha.cases
    obtain ⟨y, t2, rfl, r2, ht2⟩ := ht1.cases
    have := ht2.nil_right
    subst this
    split at ho
    · rename_i c z zs es i e1 c2 z2 zs2 es2 i2 e2 hg1 hg2
      cases hc : (Nat.beq zs 132 && Nat.beq es 132 && Nat.beq zs2 132 && Nat.beq es2 132 && Nat.beq i j && Nat.beq i2 j && Nat.beq k j && eqTV c c2 && veqN.veqL 5 z z2 && lgRows pEq c z) with
      | false => rw [hc] at ho; cases ho
      | true =>
        rw [hc] at ho
        simp only [cond_true] at ho
        cases ho
        simp only [Bool.and_eq_true] at hc
        obtain ⟨⟨⟨⟨⟨⟨⟨⟨⟨b1, b2⟩, b3⟩, b4⟩, b5⟩, b6⟩, b7⟩, b8⟩, b9⟩, b10⟩ := hc
        have b1 := Nat.eq_of_beq_eq_true b1
        have b2 := Nat.eq_of_beq_eq_true b2
        have b3 := Nat.eq_of_beq_eq_true b3
        have b4 := Nat.eq_of_beq_eq_true b4
        have b5 := Nat.eq_of_beq_eq_true b5
        have b6 := Nat.eq_of_beq_eq_true b6
        have b7 := Nat.eq_of_beq_eq_true b7
        have b8 := eqTV_sound _ _ b8
        have b9 := (veq_sound 5).2 _ _ b9
        subst b1 b2 b3 b4 b8 b9
        subst b5
        subst b6 b7
        obtain ⟨a', N, rfl, ra, sa, n1, n2⟩ := sg_len r1
        obtain ⟨b', N2, rfl, rb, sb, _, _⟩ := sg_len r2
        have hNN : N2 = N := by
          rw [sa] at sb
          have := Option.some.inj sb
          injection this with _ this
          omega
        subst hNN
        have R1 := rows_of hr hg1 ra b10 sa
        have R2 := rows_of hr hg2 rb b10 sa
        refine (equal_block a' b' N2 n2 (rowF c z) w fun q hq => ⟨(R1 q hq).1, (R1 q hq).2, (R2 q hq).2, ?_⟩).mono ?_
        · have := rows_p b10 q
          simp only [pEq, Option.isSome_iff_exists] at this
          exact this
        · rintro e w' ⟨rfl, hb⟩
          exact ⟨_, rfl, .bool _, hb⟩
    · cases ho
  · cases ho

theorem mx_zero (o : Nat) {f : Nat → Nat} (n : Nat) (h : ∀ s, s < n → f s = 0) : mx o f n = o := by
  induction n with
  | zero => rfl
  | succ n ih =>
    have e1 := ih fun s hs => h s (by omega)
    have e2 := h n (by omega)
    simp only [mx, e1, e2]
    omega
theorem gout_zero {st : Nat → Nat → Nat} (h : ∀ k, 24 ≤ k → ∀ s, s < 4 → st k s = 0) : ∀ N, 24 ≤ N → gout st N = gout st 24 := by
  intro N hN
  induction N with
  | zero => omega
  | succ N ih =>
    rcases Nat.lt_or_ge N 24 with h1 | h1
    · have : N + 1 = 24 := by omega
      rw [this]
    · rw [← ih h1]
      exact mx_zero _ 4 (h N h1)

theorem grO_ok {args : List Value} {h : Tr AO} {v : Value} (ho : grO args h = some v) (E : Env) (w : World) (args' : List Value) (hr : HR E h w) (ha : LR E args args') :
    Calls prog 59 args'.toArray w fun e w' => ∃ v', e = .returned v' ∧ VR E v v' ∧ Below w.heap.size w w' := by
  unfold grO at ho
  split at ho
  · rename_i b j
    obtain ⟨x, t1, rfl, r1, ht1⟩ := ha.cases
    have := ht1.nil_right
    subst this
    split at ho
    · rename_i c z zs es i e1 hg1
      cases hc : (Nat.beq zs 132 && Nat.beq es 132 && Nat.beq i j && lgRows pGr c z && (List.range 4).all (fun s => Nat.beq (stOf z s) 0)) with
      | false => rw [hc] at ho; cases ho
      | true =>
        rw [hc] at ho
        simp only [cond_true] at ho
        cases ho
        simp only [Bool.and_eq_true] at hc
        obtain ⟨⟨⟨⟨b1, b2⟩, b3⟩, b4⟩, b5⟩ := hc
        have b1 := Nat.eq_of_beq_eq_true b1
        have b2 := Nat.eq_of_beq_eq_true b2
        have b3 := Nat.eq_of_beq_eq_true b3
        subst b1 b2
        subst b3
        obtain ⟨b', N, rfl, rb, sb, n1, n2⟩ := sg_len r1
        have R1 := rows_of hr hg1 rb b4 sb
        have hz : ∀ k, 24 ≤ k → ∀ s, s < 4 → stOf (rowF c z k) s = 0 := by
          intro k hk s hs
          have : rowF c z k = z := by
            unfold rowF
            have : Nat.blt k 24 = false := by
              cases hh : Nat.blt k 24 with
              | false => rfl
              | true => have : k < 24 := by simpa [Nat.blt_eq] using hh
                        omega
            rw [this]; rfl
          rw [this]
          simp only [List.all_eq_true, List.mem_range] at b5
          exact Nat.eq_of_beq_eq_true (b5 s hs)
        rw [← gout_zero hz N n1]
        refine (page_Greatest b' N n2 (rowF c z) (fun k s => stOf (rowF c z k) s) w fun q hq => ⟨(R1 q hq).1, (R1 q hq).2, ?_, ?_⟩).mono ?_
        · have := rows_p b4 q
          simp only [pGr, Bool.and_eq_true, List.all_eq_true] at this
          intro v hv
          have hf := this.1 v hv
          have hcl : closed v = true := by
            have hq := b4
            simp only [lgRows, Bool.and_eq_true, List.all_eq_true, List.mem_range] at hq
            have mem_closed : ∀ {l : List Value} {v : Value}, allClosed l = true → v ∈ l → closed v = true := by
              intro l v
              induction l with
              | nil => intro _ h; cases h
              | cons u l ih =>
                intro h hm
                simp only [allClosed, Bool.and_eq_true] at h
                cases hm with
                | head => exact h.1
                | tail _ hm => exact ih h.2 hm
            unfold rowF at hv
            cases hk : Nat.blt q 24 with
            | true =>
              rw [hk] at hv
              simp only [cond_true] at hv
              have h5 := hq.2 q (by simpa [Nat.blt_eq] using hk)
              split at h5
              · rename_i l hl
                rw [hl] at hv
                simp only [Bool.and_eq_true] at h5
                exact mem_closed h5.1 hv
              · cases h5
            | false =>
              rw [hk] at hv
              exact mem_closed hq.1.1.1.2 hv
          exact closed_one hcl hf
        · intro s hs
          have := rows_p b4 q
          simp only [pGr, Bool.and_eq_true, List.all_eq_true, List.mem_range] at this
          have h4 := this.2 s hs
          unfold stOf
          cases hst : (rowF c z q)[s * 33]? with
          | none => rw [hst] at h4; cases h4
          | some u =>
            rw [hst] at h4
            cases u with
            | int kd n =>
              cases kd <;> first | (cases h4; done) | skip
              cases n with
              | ofNat n => rfl
              | negSucc n => cases h4
            | _ => cases h4
        · rintro e w' ⟨rfl, hb⟩
          exact ⟨_, rfl, .int _ _, hb⟩
    · cases ho
  · cases ho

/-- the tables with rows whose number is known by name alone -/
noncomputable def lgL (L : Lk) : Lk := { L with
  orc := fun f a h => cond (Nat.beq f 37) (match eqO a h with | some v => some v | none => L.orc f a h) (cond (Nat.beq f 59) (match grO a h with | some v => some v | none => L.orc f a h) (L.orc f a h))
  wide := fun j => Nat.beq j 0 }
theorem lgL_ok {L : Lk} (hL : LkOK prog L) {N : Nat} (hs : Sg.σ 0 = some (.int .i64 (N : Int))) (h1 : 24 ≤ N) (h2 : N ≤ 256) : LkOK prog (lgL L) where
  ti := hL.ti
  fs := hL.fs
  call := hL.call
  ext := hL.ext
  orx := hL.orx
  sbin := hL.sbin
  sun := hL.sun
  scv := hL.scv
  smx := hL.smx
  wide := fun j h => by
    have := Nat.eq_of_beq_eq_true h
    subst this
    exact ⟨N, hs, h1, h2⟩
  orc := by
    intro f args h v ho E w args' hr ha
    simp only [lgL] at ho
    cases hf : Nat.beq f 37 with
    | true =>
      rw [hf] at ho
      simp only [cond_true] at ho
      have := Nat.eq_of_beq_eq_true hf
      subst this
      split at ho
      · rename_i u hu
        cases ho
        exact eqO_ok hu E w args' hr ha
      · exact hL.orc _ _ _ _ ho E w args' hr ha
    | false =>
      rw [hf] at ho
      simp only [cond_false] at ho
      cases hf2 : Nat.beq f 59 with
      | true =>
        rw [hf2] at ho
        simp only [cond_true] at ho
        have := Nat.eq_of_beq_eq_true hf2
        subst this
        split at ho
        · rename_i u hu
          cases ho
          exact grO_ok hu E w args' hr ha
        · exact hL.orc _ _ _ _ ho E w args' hr ha
      | false =>
        rw [hf2] at ho
        exact hL.orc _ _ _ _ ho E w args' hr ha
end Go.Proofs.Tryz
