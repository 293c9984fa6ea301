/- The document's answer for the console at this program: the command of a line (its ends). The document's answer for the console at this program: words alone (sync, flush, compact). The document's answer for the console at this program: power. The document's answer for the console at this program: no name; a reading. The document's answer for the console at this program: a reading. -/
import Derived.Test.YtlnonecibpjcoaaGreatDoorPa
import Derived.Test.YtlnonecibpjcoaaGreatDoorRe
set_option linter.unusedSimpArgs false
set_option linter.unnecessarySimpa false
set_option linter.unusedVariables false
set_option linter.unusedSectionVars false
namespace Go.Proofs.YtlnonecibpjcoaaGreatDoor
open Go.RowKit
attribute [local go_sem] Oper.semAt_some

/-- how the document's reading of a line ends -/
def RPq (r : Option Cm) (w : World) (e : Ending) (w' : World) : Prop :=
  match r with
  | some c => ∃ v, e = .returned (.tuple #[v, .bool true]) ∧ CmdIs w.heap.size w' v c ∧ Below w.heap.size w w'
  | none => ∃ Y : Array Value, e = .returned (.tuple #[.agg Y, .bool false]) ∧ Y.size = 19 ∧ Y.all (·.oneCell') = true ∧ Below w.heap.size w w'
theorem res11 {o : Nat} {v : Value} {Z : Array Value} {tmps : Array Value} {w : World} (hZ : Z.size = 19) (h1 : w.heap[o]? = some (.cells Z 48 (0, 0)))
    (t2 : tmps[2]? = some (.pointer (some ⟨o, 0, none⟩))) (t3 : tmps[3]? = some v) : (results Tryz.f11 tmps).run Tryz.prog w = .ok (.tuple #[.agg Z, v]) w := by
  have e1 := res48 h1 hZ
  simp [results, Tryz.results11, t2, t3, asAddr, e1]
theorem rq_no {tmps : Array Value} {w W : World} {Y Z : Array Value} {R : Option Cm} (t2 : tmps[2]? = some (.pointer (some ⟨w.heap.size, 0, none⟩))) (t3 : tmps[3]? = some (.bool false))
    (fr : W.heap[w.heap.size]? = some (.cells Z 48 (0, 0))) (hY : Y.size = 19) (hb : Below w.heap.size w W) (hR : R = none) (h1 : Y.all (·.oneCell') = true := by first | assumption | exact zCmd_one) :
    bodyPost Tryz.prog Tryz.f11 (RPq R w) .ret { tmps := tmps, defers := [] } (setRow W w.heap.size Y) := by
  generalize hT : setRow W w.heap.size Y = w4
  obtain ⟨hx4, f4⟩ := fin_x (b0 _) fr hT
  refine bodyPost_ret (v := .tuple #[.agg Y, .bool false]) (res11 hY f4 t2 t3) rfl ?_
  subst hR
  exact ⟨_, rfl, hY, h1, bX hb hx4 (Nat.le_refl _)⟩
theorem rq_yes {tmps : Array Value} {w W : World} {Y Z : Array Value} {R : Option Cm} {c : Cm} (t2 : tmps[2]? = some (.pointer (some ⟨w.heap.size, 0, none⟩))) (t3 : tmps[3]? = some (.bool true))
    (fr : W.heap[w.heap.size]? = some (.cells Z 48 (0, 0))) (hY : Y.size = 19) (hb : Below w.heap.size w W) (hv : CmdIs w.heap.size W (.agg Y) c) (hR : R = some c) :
    bodyPost Tryz.prog Tryz.f11 (RPq R w) .ret { tmps := tmps, defers := [] } (setRow W w.heap.size Y) := by
  generalize hT : setRow W w.heap.size Y = w4
  obtain ⟨hx4, f4⟩ := fin_x (b0 _) fr hT
  refine bodyPost_ret (v := .tuple #[.agg Y, .bool true]) (res11 hY f4 t2 t3) rfl ?_
  subst hR
  exact ⟨_, rfl, hv.exc hx4 fr (by decide) (by decide), bX hb hx4 (Nat.le_refl _)⟩
theorem build48_0 (w : World) : (Instr.build 48 #[]).run Tryz.prog w = .ok (.agg zCmd) w := by kernel_rfl

set_option maxRecDepth 100000 in
set_option maxHeartbeats 4000000 in
theorem ref_Parse_no (s : ByteArray) (hs : s.size ≤ 1000000) (h : rW s.data.toList ⟨#[]⟩ [] = none) (w : World) : Calls Tryz.prog 11 #[.string s] w (RPq none w) := by
  have c0 := ref_Words s hs (w.alloc (.cells zCmd 48))
  rw [h] at c0
  obtain ⟨R, hR⟩ : ∃ R : Option Cm, R = none := ⟨_, rfl⟩
  rw [← hR]
  have HR := hide hR
  clear hR h
  have f1 := na w zCmd 48
  have hb1 := bA (b0 w) (.cells zCmd 48)
  go_enter Tryz.func11, Tryz.ntmps11
  go_wp2_with fail
  refine c0.mono ?_
  rintro e w2 ⟨rfl, hb2⟩
  have f2 := kp hb2 f1
  have HB := hide (bB hb1 hb2)
  have hz := zCmd_size
  have h1 := zCmd_one
  clear c0 hb1 hb2 f1
  go_wp2_with (first | (refine wpList_buildW rfl _ _ rfl (.agg zCmd) #[] (by simp [Act.eval]) (build48_0 _) ?_; simp only [Act.put, List.setIfInBounds_toArray, List.set_cons_zero, List.set_cons_succ]) | (refine wpList_storeW rfl _ _ _ rfl w.heap.size 48 _ zCmd rfl rfl f2 (by rw [size48, hz]) rfl h1 ?_; simp only [Act.put]))
  exact rq_no rfl rfl f2 zCmd_size HB.out HR.out
end Go.Proofs.YtlnonecibpjcoaaGreatDoor

namespace Go.Proofs.YtlnonecibpjcoaaGreatDoor
open Go.RowKit
attribute [local go_sem] Oper.semAt_some

theorem build29_one (k : Int) (w : World) : (Instr.build 29 #[(0, .int .i64 k)]).run Tryz.prog w = .ok (.agg (OpV.cs ⟨k, 0, ⟨#[]⟩, 0, 0, 0, none, 0, 0, 0, ⟨#[]⟩, 0, 0, 0, 0, ⟨#[]⟩, 0, 0⟩)) w := by kernel_rfl
theorem build48_one (k : Int) (w : World) : (Instr.build 48 #[(0, .int .i64 1), (1, .agg (OpV.cs ⟨k, 0, ⟨#[]⟩, 0, 0, 0, none, 0, 0, 0, ⟨#[]⟩, 0, 0, 0, 0, ⟨#[]⟩, 0, 0⟩))]).run Tryz.prog w = .ok (.agg (cmdCs 1 ⟨k, 0, ⟨#[]⟩, 0, 0, 0, none, 0, 0, 0, ⟨#[]⟩, 0, 0, 0, 0, ⟨#[]⟩, 0, 0⟩ 0 none 0 0)) w := by kernel_rfl
theorem addr0 (a : Addr) : a.add 0 = a := by unfold Addr.add; rw [if_pos rfl]
theorem litEq {a : ByteArray} (l : List UInt8) (h : a = ⟨l.toArray⟩) : (a.toList == l) = true := by
  subst h
  rw [ByteArray.toList_eq]
  simp
theorem litNe {a : ByteArray} (l : List UInt8) (h : a ≠ ⟨l.toArray⟩) : (a.toList == l) = false := by
  rw [beq_eq_false_iff_ne]
  intro e
  apply h
  apply ByteArray.ext
  rw [ByteArray.toList_eq] at e
  show a.data = l.toArray
  rw [← e]
theorem litEq' {a : ByteArray} (l : List UInt8) (h : a = ⟨l.toArray⟩) : (l == a.toList) = true := by rw [beq_iff_eq, ← beq_iff_eq.1 (litEq l h)]
theorem litNe' {a : ByteArray} (l : List UInt8) (h : a ≠ ⟨l.toArray⟩) : (l == a.toList) = false := by
  rw [beq_eq_false_iff_ne]
  exact fun e => (beq_eq_false_iff_ne.1 (litNe l h)) e.symm

set_option maxRecDepth 100000 in
set_option maxHeartbeats 4000000 in
theorem ref_Parse_one (K : Nat) (hd : ByteArray) (hK : (K = 2 ∧ hd = wSync) ∨ (K = 3 ∧ hd = wFlush) ∨ (K = 4 ∧ hd = wCompact)) (l : List ByteArray) (s : ByteArray) (hs : s.size ≤ 1000000) (h : rW s.data.toList ⟨#[]⟩ [] = some (hd :: l)) (w : World) :
    Calls Tryz.prog 11 #[.string s] w (RPq (if l = [] then some { ok := (K : Int) } else none) w) := by
  have c0 := ref_Words s hs (w.alloc (.cells zCmd 48))
  rw [h] at c0
  obtain ⟨R, hR⟩ : ∃ R : Option Cm, R = if l = [] then some { ok := (K : Int) } else none := ⟨_, rfl⟩
  rw [← hR]
  have HR := hide hR
  clear hR h
  have f1 := na w zCmd 48
  have hb1 := bA (b0 w) (.cells zCmd 48)
  obtain ⟨x2, hx2⟩ : ∃ b : Bool, b = decide (K = 2) := ⟨_, rfl⟩
  obtain ⟨x3, hx3⟩ : ∃ b : Bool, b = decide (K = 3) := ⟨_, rfl⟩
  obtain ⟨x4, hx4⟩ : ∃ b : Bool, b = decide (K = 4) := ⟨_, rfl⟩
  have a2 : (hd.toList == ([115, 121, 110, 99] : List UInt8)) = x2 := by rcases hK with ⟨rfl, rfl⟩ | ⟨rfl, rfl⟩ | ⟨rfl, rfl⟩ <;> rw [hx2] <;> first | exact litEq _ rfl | exact litNe _ (by decide)
  have b2 : (([115, 121, 110, 99] : List UInt8) == hd.toList) = x2 := by rcases hK with ⟨rfl, rfl⟩ | ⟨rfl, rfl⟩ | ⟨rfl, rfl⟩ <;> rw [hx2] <;> first | exact litEq' _ rfl | exact litNe' _ (by decide)
  have a3 : (hd.toList == ([102, 108, 117, 115, 104] : List UInt8)) = x3 := by rcases hK with ⟨rfl, rfl⟩ | ⟨rfl, rfl⟩ | ⟨rfl, rfl⟩ <;> rw [hx3] <;> first | exact litEq _ rfl | exact litNe _ (by decide)
  have b3 : (([102, 108, 117, 115, 104] : List UInt8) == hd.toList) = x3 := by rcases hK with ⟨rfl, rfl⟩ | ⟨rfl, rfl⟩ | ⟨rfl, rfl⟩ <;> rw [hx3] <;> first | exact litEq' _ rfl | exact litNe' _ (by decide)
  have a4 : (hd.toList == ([99, 111, 109, 112, 97, 99, 116] : List UInt8)) = x4 := by rcases hK with ⟨rfl, rfl⟩ | ⟨rfl, rfl⟩ | ⟨rfl, rfl⟩ <;> rw [hx4] <;> first | exact litEq _ rfl | exact litNe _ (by decide)
  have b4 : (([99, 111, 109, 112, 97, 99, 116] : List UInt8) == hd.toList) = x4 := by rcases hK with ⟨rfl, rfl⟩ | ⟨rfl, rfl⟩ | ⟨rfl, rfl⟩ <;> rw [hx4] <;> first | exact litEq' _ rfl | exact litNe' _ (by decide)
  have hK2 : K = 2 ∨ K = 3 ∨ K = 4 := by omega
  clear hK
  rcases hK2 with rfl | rfl | rfl
  all_goals simp only [decide_true, decide_false, show decide ((2 : Nat) = 3) = false from rfl, show decide ((2 : Nat) = 4) = false from rfl, show decide ((3 : Nat) = 2) = false from rfl, show decide ((3 : Nat) = 4) = false from rfl, show decide ((4 : Nat) = 2) = false from rfl, show decide ((4 : Nat) = 3) = false from rfl] at hx2 hx3 hx4
  all_goals subst hx2 hx3 hx4
  · go_enter Tryz.func11, Tryz.ntmps11
    go_wp2_with fail
    refine c0.mono ?_
    rintro e w2 ⟨v, rfl, hO, hb2⟩
    obtain ⟨A, c, rfl, hr⟩ := hO.cr
    have f2 := kp hb2 f1
    have hb3 := bA (b0 w2) (.cells #[.string ⟨#[]⟩, .string ⟨#[]⟩, .string ⟨#[115, 121, 110, 99]⟩, .string ⟨#[102, 108, 117, 115, 104]⟩, .string ⟨#[99, 111, 109, 112, 97, 99, 116]⟩] 9)
    have f3 := kp hb3 f2
    have fK := na w2 #[.string ⟨#[]⟩, .string ⟨#[]⟩, .string ⟨#[115, 121, 110, 99]⟩, .string ⟨#[102, 108, 117, 115, 104]⟩, .string ⟨#[99, 111, 109, 112, 97, 99, 116]⟩] 9
    have HB := hide (bB (bB hb1 hb2) hb3)
    have hz := zCmd_size
    have h1 := zCmd_one
    rw [strV_len] at *
    obtain ⟨ad, rfl, hal, hc⟩ := hr.inV (by simp [strV])
    have q0 := hc 0 (by simp [strV])
    simp only [strV, List.map_cons, List.getElem_cons_zero, addr0] at q0
    obtain ⟨X, hX⟩ : ∃ X, X = OpV.cs ⟨2, 0, ⟨#[]⟩, 0, 0, 0, none, 0, 0, 0, ⟨#[]⟩, 0, 0, 0, 0, ⟨#[]⟩, 0, 0⟩ := ⟨_, rfl⟩
    obtain ⟨Y, hY⟩ : ∃ Y, Y = cmdCs 1 ⟨2, 0, ⟨#[]⟩, 0, 0, 0, none, 0, 0, 0, ⟨#[]⟩, 0, 0, 0, 0, ⟨#[]⟩, 0, 0⟩ 0 none 0 0 := ⟨_, rfl⟩
    have bX := build29_one 2
    have bY := build48_one 2
    have hYs : Y.size = 19 := by rw [hY]; rfl
    have hY1 : Y.all (·.oneCell') = true := by rw [hY]; exact cmd_one _ _ _ _ _ _
    have HC : Hid (∀ W, CmdIs w.heap.size W (.agg Y) { ok := 2 }) := hide (by rw [hY]; exact fun W => ⟨none, 0, none, 0, rfl, RS.nil _, RS.nil _⟩)
    rw [← hX] at bX bY
    rw [← hY] at bY
    clear c0 hb1 hb2 hb3 hO hc hr hX hY f2
    generalize hW3 : w2.alloc (.cells #[.string ⟨#[]⟩, .string ⟨#[]⟩, .string ⟨#[115, 121, 110, 99]⟩, .string ⟨#[102, 108, 117, 115, 104]⟩, .string ⟨#[99, 111, 109, 112, 97, 99, 116]⟩] 9) = w3 at *
    go_wp2_with fail
    try rw [hW3]
    go_loopw [8] (fun v8 wr => ∃ k : Nat, v8 = .int .i64 (k : Int) ∧ wr = w3 ∧ 2 ≤ k ∧ k ≤ 2) (fun v8 _ => 5 - (intOf v8).toNat)
    case atStart => exact ⟨2, rfl, rfl, by omega, by omega⟩
    case round =>
      obtain ⟨k, rfl, rfl, hk1, hk2⟩ := hrel
      obtain ⟨zk1, zk2, zk3⟩ := rcell fK
      obtain rfl : k = 2 := by omega
      · cases l with
        | nil =>
          go_wp2_with (first | (refine wpList_buildW rfl _ _ rfl (.agg X) #[(0, .int .i64 2)] (by simp [Act.eval]) (bX _) ?_; simp only [Act.put, List.setIfInBounds_toArray, List.set_cons_zero, List.set_cons_succ]) | (refine wpList_buildW rfl _ _ rfl (.agg Y) #[(0, .int .i64 1), (1, .agg X)] (by simp [Act.eval]) (bY _) ?_; simp only [Act.put, List.setIfInBounds_toArray, List.set_cons_zero, List.set_cons_succ]) | (refine wpList_storeW rfl _ _ _ rfl w.heap.size 48 _ Y rfl rfl f3 (by rw [size48, hYs]) (by rw [hYs]; rfl) hY1 ?_; simp only [Act.put]))
          exact rq_yes rfl rfl f3 hYs HB.out (HC.out _) (by rw [HR.out]; rfl)
        | cons y l =>
          go_wp2_with (first | (refine wpList_buildW rfl _ _ rfl (.agg X) #[(0, .int .i64 2)] (by simp [Act.eval]) (bX _) ?_; simp only [Act.put, List.setIfInBounds_toArray, List.set_cons_zero, List.set_cons_succ]) | (refine wpList_buildW rfl _ _ rfl (.agg Y) #[(0, .int .i64 1), (1, .agg X)] (by simp [Act.eval]) (bY _) ?_; simp only [Act.put, List.setIfInBounds_toArray, List.set_cons_zero, List.set_cons_succ]) | (refine wpList_storeW rfl _ _ _ rfl w.heap.size 48 _ Y rfl rfl f3 (by rw [size48, hYs]) (by rw [hYs]; rfl) hY1 ?_; simp only [Act.put]))
          exact rq_no rfl rfl f3 hYs HB.out (by rw [HR.out]; rfl)
  · go_enter Tryz.func11, Tryz.ntmps11
    go_wp2_with fail
    refine c0.mono ?_
    rintro e w2 ⟨v, rfl, hO, hb2⟩
    obtain ⟨A, c, rfl, hr⟩ := hO.cr
    have f2 := kp hb2 f1
    have hb3 := bA (b0 w2) (.cells #[.string ⟨#[]⟩, .string ⟨#[]⟩, .string ⟨#[115, 121, 110, 99]⟩, .string ⟨#[102, 108, 117, 115, 104]⟩, .string ⟨#[99, 111, 109, 112, 97, 99, 116]⟩] 9)
    have f3 := kp hb3 f2
    have fK := na w2 #[.string ⟨#[]⟩, .string ⟨#[]⟩, .string ⟨#[115, 121, 110, 99]⟩, .string ⟨#[102, 108, 117, 115, 104]⟩, .string ⟨#[99, 111, 109, 112, 97, 99, 116]⟩] 9
    have HB := hide (bB (bB hb1 hb2) hb3)
    have hz := zCmd_size
    have h1 := zCmd_one
    rw [strV_len] at *
    obtain ⟨ad, rfl, hal, hc⟩ := hr.inV (by simp [strV])
    have q0 := hc 0 (by simp [strV])
    simp only [strV, List.map_cons, List.getElem_cons_zero, addr0] at q0
    obtain ⟨X, hX⟩ : ∃ X, X = OpV.cs ⟨3, 0, ⟨#[]⟩, 0, 0, 0, none, 0, 0, 0, ⟨#[]⟩, 0, 0, 0, 0, ⟨#[]⟩, 0, 0⟩ := ⟨_, rfl⟩
    obtain ⟨Y, hY⟩ : ∃ Y, Y = cmdCs 1 ⟨3, 0, ⟨#[]⟩, 0, 0, 0, none, 0, 0, 0, ⟨#[]⟩, 0, 0, 0, 0, ⟨#[]⟩, 0, 0⟩ 0 none 0 0 := ⟨_, rfl⟩
    have bX := build29_one 3
    have bY := build48_one 3
    have hYs : Y.size = 19 := by rw [hY]; rfl
    have hY1 : Y.all (·.oneCell') = true := by rw [hY]; exact cmd_one _ _ _ _ _ _
    have HC : Hid (∀ W, CmdIs w.heap.size W (.agg Y) { ok := 3 }) := hide (by rw [hY]; exact fun W => ⟨none, 0, none, 0, rfl, RS.nil _, RS.nil _⟩)
    rw [← hX] at bX bY
    rw [← hY] at bY
    clear c0 hb1 hb2 hb3 hO hc hr hX hY f2
    generalize hW3 : w2.alloc (.cells #[.string ⟨#[]⟩, .string ⟨#[]⟩, .string ⟨#[115, 121, 110, 99]⟩, .string ⟨#[102, 108, 117, 115, 104]⟩, .string ⟨#[99, 111, 109, 112, 97, 99, 116]⟩] 9) = w3 at *
    go_wp2_with fail
    try rw [hW3]
    go_loopw [8] (fun v8 wr => ∃ k : Nat, v8 = .int .i64 (k : Int) ∧ wr = w3 ∧ 2 ≤ k ∧ k ≤ 3) (fun v8 _ => 5 - (intOf v8).toNat)
    case atStart => exact ⟨2, rfl, rfl, by omega, by omega⟩
    case round =>
      obtain ⟨k, rfl, rfl, hk1, hk2⟩ := hrel
      obtain ⟨zk1, zk2, zk3⟩ := rcell fK
      obtain rfl | rfl : k = 2 ∨ k = 3 := by omega
      · go_wp2
        go_roundw
        case rel => exact ⟨3, by go_num, by trivial, by omega, by omega⟩
        case measure => simp [intOf]
      · cases l with
        | nil =>
          go_wp2_with (first | (refine wpList_buildW rfl _ _ rfl (.agg X) #[(0, .int .i64 3)] (by simp [Act.eval]) (bX _) ?_; simp only [Act.put, List.setIfInBounds_toArray, List.set_cons_zero, List.set_cons_succ]) | (refine wpList_buildW rfl _ _ rfl (.agg Y) #[(0, .int .i64 1), (1, .agg X)] (by simp [Act.eval]) (bY _) ?_; simp only [Act.put, List.setIfInBounds_toArray, List.set_cons_zero, List.set_cons_succ]) | (refine wpList_storeW rfl _ _ _ rfl w.heap.size 48 _ Y rfl rfl f3 (by rw [size48, hYs]) (by rw [hYs]; rfl) hY1 ?_; simp only [Act.put]))
          exact rq_yes rfl rfl f3 hYs HB.out (HC.out _) (by rw [HR.out]; rfl)
        | cons y l =>
          go_wp2_with (first | (refine wpList_buildW rfl _ _ rfl (.agg X) #[(0, .int .i64 3)] (by simp [Act.eval]) (bX _) ?_; simp only [Act.put, List.setIfInBounds_toArray, List.set_cons_zero, List.set_cons_succ]) | (refine wpList_buildW rfl _ _ rfl (.agg Y) #[(0, .int .i64 1), (1, .agg X)] (by simp [Act.eval]) (bY _) ?_; simp only [Act.put, List.setIfInBounds_toArray, List.set_cons_zero, List.set_cons_succ]) | (refine wpList_storeW rfl _ _ _ rfl w.heap.size 48 _ Y rfl rfl f3 (by rw [size48, hYs]) (by rw [hYs]; rfl) hY1 ?_; simp only [Act.put]))
          exact rq_no rfl rfl f3 hYs HB.out (by rw [HR.out]; rfl)
  · go_enter Tryz.func11, Tryz.ntmps11
    go_wp2_with fail
    refine c0.mono ?_
    rintro e w2 ⟨v, rfl, hO, hb2⟩
    obtain ⟨A, c, rfl, hr⟩ := hO.cr
    have f2 := kp hb2 f1
    have hb3 := bA (b0 w2) (.cells #[.string ⟨#[]⟩, .string ⟨#[]⟩, .string ⟨#[115, 121, 110, 99]⟩, .string ⟨#[102, 108, 117, 115, 104]⟩, .string ⟨#[99, 111, 109, 112, 97, 99, 116]⟩] 9)
    have f3 := kp hb3 f2
    have fK := na w2 #[.string ⟨#[]⟩, .string ⟨#[]⟩, .string ⟨#[115, 121, 110, 99]⟩, .string ⟨#[102, 108, 117, 115, 104]⟩, .string ⟨#[99, 111, 109, 112, 97, 99, 116]⟩] 9
    have HB := hide (bB (bB hb1 hb2) hb3)
    have hz := zCmd_size
    have h1 := zCmd_one
    rw [strV_len] at *
    obtain ⟨ad, rfl, hal, hc⟩ := hr.inV (by simp [strV])
    have q0 := hc 0 (by simp [strV])
    simp only [strV, List.map_cons, List.getElem_cons_zero, addr0] at q0
    obtain ⟨X, hX⟩ : ∃ X, X = OpV.cs ⟨4, 0, ⟨#[]⟩, 0, 0, 0, none, 0, 0, 0, ⟨#[]⟩, 0, 0, 0, 0, ⟨#[]⟩, 0, 0⟩ := ⟨_, rfl⟩
    obtain ⟨Y, hY⟩ : ∃ Y, Y = cmdCs 1 ⟨4, 0, ⟨#[]⟩, 0, 0, 0, none, 0, 0, 0, ⟨#[]⟩, 0, 0, 0, 0, ⟨#[]⟩, 0, 0⟩ 0 none 0 0 := ⟨_, rfl⟩
    have bX := build29_one 4
    have bY := build48_one 4
    have hYs : Y.size = 19 := by rw [hY]; rfl
    have hY1 : Y.all (·.oneCell') = true := by rw [hY]; exact cmd_one _ _ _ _ _ _
    have HC : Hid (∀ W, CmdIs w.heap.size W (.agg Y) { ok := 4 }) := hide (by rw [hY]; exact fun W => ⟨none, 0, none, 0, rfl, RS.nil _, RS.nil _⟩)
    rw [← hX] at bX bY
    rw [← hY] at bY
    clear c0 hb1 hb2 hb3 hO hc hr hX hY f2
    generalize hW3 : w2.alloc (.cells #[.string ⟨#[]⟩, .string ⟨#[]⟩, .string ⟨#[115, 121, 110, 99]⟩, .string ⟨#[102, 108, 117, 115, 104]⟩, .string ⟨#[99, 111, 109, 112, 97, 99, 116]⟩] 9) = w3 at *
    go_wp2_with fail
    try rw [hW3]
    go_loopw [8] (fun v8 wr => ∃ k : Nat, v8 = .int .i64 (k : Int) ∧ wr = w3 ∧ 2 ≤ k ∧ k ≤ 4) (fun v8 _ => 5 - (intOf v8).toNat)
    case atStart => exact ⟨2, rfl, rfl, by omega, by omega⟩
    case round =>
      obtain ⟨k, rfl, rfl, hk1, hk2⟩ := hrel
      obtain ⟨zk1, zk2, zk3⟩ := rcell fK
      obtain rfl | rfl | rfl : k = 2 ∨ k = 3 ∨ k = 4 := by omega
      · go_wp2
        go_roundw
        case rel => exact ⟨3, by go_num, by trivial, by omega, by omega⟩
        case measure => simp [intOf]
      · go_wp2
        go_roundw
        case rel => exact ⟨4, by go_num, by trivial, by omega, by omega⟩
        case measure => simp [intOf]
      · cases l with
        | nil =>
          go_wp2_with (first | (refine wpList_buildW rfl _ _ rfl (.agg X) #[(0, .int .i64 4)] (by simp [Act.eval]) (bX _) ?_; simp only [Act.put, List.setIfInBounds_toArray, List.set_cons_zero, List.set_cons_succ]) | (refine wpList_buildW rfl _ _ rfl (.agg Y) #[(0, .int .i64 1), (1, .agg X)] (by simp [Act.eval]) (bY _) ?_; simp only [Act.put, List.setIfInBounds_toArray, List.set_cons_zero, List.set_cons_succ]) | (refine wpList_storeW rfl _ _ _ rfl w.heap.size 48 _ Y rfl rfl f3 (by rw [size48, hYs]) (by rw [hYs]; rfl) hY1 ?_; simp only [Act.put]))
          exact rq_yes rfl rfl f3 hYs HB.out (HC.out _) (by rw [HR.out]; rfl)
        | cons y l =>
          go_wp2_with (first | (refine wpList_buildW rfl _ _ rfl (.agg X) #[(0, .int .i64 4)] (by simp [Act.eval]) (bX _) ?_; simp only [Act.put, List.setIfInBounds_toArray, List.set_cons_zero, List.set_cons_succ]) | (refine wpList_buildW rfl _ _ rfl (.agg Y) #[(0, .int .i64 1), (1, .agg X)] (by simp [Act.eval]) (bY _) ?_; simp only [Act.put, List.setIfInBounds_toArray, List.set_cons_zero, List.set_cons_succ]) | (refine wpList_storeW rfl _ _ _ rfl w.heap.size 48 _ Y rfl rfl f3 (by rw [size48, hYs]) (by rw [hYs]; rfl) hY1 ?_; simp only [Act.put]))
          exact rq_no rfl rfl f3 hYs HB.out (by rw [HR.out]; rfl)

end Go.Proofs.YtlnonecibpjcoaaGreatDoor

namespace Go.Proofs.YtlnonecibpjcoaaGreatDoor
open Go.RowKit
attribute [local go_sem] Oper.semAt_some

theorem run_sliceFrom (w : World) (ad : Addr) (n c j : Nat) (hj : j ≤ n) (hn : n ≤ c) :
    (Instr.sliceAt 66 (.slice (some ad) n c) (some (.int .i64 (j : Int))) none none).run Tryz.prog w = .ok (.slice (some (if c - j = 0 then ad else ad.add j)) (n - j) (c - j)) w := by
  have h1 : (Instr.sliceBound (.int .i64 (j : Int)) n .sliceB).run Tryz.prog w = .ok j w := by
    simp [Instr.sliceBound, asIntOf, hj]
  have hs : (sizeOf 9).run Tryz.prog w = .ok 1 w := Tryz.sizeOf9 w
  simp [Instr.sliceAt, Instr.slice, Instr.sliceBounds, run_underlying Tryz.underlying66, h1, hs]
  by_cases h : c = j
  · rw [if_pos h, if_pos (by omega)]
  · rw [if_neg h, if_neg (by omega)]
theorem wpList_sliceFrom {ops : Array Oper} {rest : List Oper} {o : Oper} {a : Act} {w : World} {Q : Exit → Act → World → Prop} (hgd : o.guard = none)
    (x y : Operand) (ho : o.op = .slice 66 x (some y) none none) (ad : Addr) (n c j : Nat) (hx : a.eval x = .slice (some ad) n c) (hy : a.eval y = .int .i64 (j : Int)) (hj : j ≤ n) (hn : n ≤ c) (A1 : Option Addr) (n1 c1 : Nat) (hA : A1 = some (if c - j = 0 then ad else ad.add j)) (hn1 : n1 = n - j) (hc1 : c1 = c - j)
    (h : wpList Tryz.prog ops Q rest (a.put o.dst (.slice A1 n1 c1)) w) : wpList Tryz.prog ops Q (o :: rest) a w := by
  subst hA hn1 hc1
  refine wpList_plain hgd fun _ hK => ?_
  unfold Oper.wp execOp
  simp only [ho, hx, Option.map, hy, Sem.run_bind, Sem.run_pure, Result.andThen_ok, run_sliceFrom w ad n c j hj hn]
  exact hK _ _ h
theorem inV_from {w : World} {ad : Addr} {ws : List ByteArray} {c j : Nat} (hc : ws.length ≤ c) (h : InV w (some ad) (strV ws)) : InV w (some (if c - j = 0 then ad else ad.add j)) (strV (ws.drop j)) := by
  intro h0
  have hl : (strV (ws.drop j)).length = ws.length - j := by simp [strV]
  rw [hl] at h0
  obtain ⟨ad', e, h1, h2⟩ := h (by rw [strV_len]; omega)
  obtain rfl : ad = ad' := Option.some.inj e
  rw [if_neg (by omega)]
  refine ⟨_, rfl, by rw [show (ad.add j).block = ad.block by unfold Addr.add; split <;> rfl]; exact h1, fun i hi => ?_⟩
  rw [hl] at hi
  have := h2 (j + i) (by rw [strV_len]; omega)
  rw [show (ad.add j).add i = ad.add (j + i) from (Go.Deep.add_add ad j i)]
  rw [this]
  simp [strV]

theorem build48_power (k : Int) (w : World) : (Instr.build 48 #[(0, .int .i64 2), (2, .int .i64 k)]).run Tryz.prog w = .ok (.agg (cmdCs 2 ⟨0, 0, ⟨#[]⟩, 0, 0, 0, none, 0, 0, 0, ⟨#[]⟩, 0, 0, 0, 0, ⟨#[]⟩, 0, 0⟩ k none 0 0)) w := by kernel_rfl

set_option maxRecDepth 100000 in
set_option maxHeartbeats 4000000 in
theorem ref_Parse_power (hd : ByteArray) (hh : hd = wPower) (l : List ByteArray) (s : ByteArray) (hs : s.size ≤ 1000000) (h : rW s.data.toList ⟨#[]⟩ [] = some (hd :: l)) (hl : l.length ≤ 1000000) (hz : ∀ x ∈ l, x.size ≤ 1000000) (w : World) :
    Calls Tryz.prog 11 #[.string s] w (RPq (match pInts l with | some [n] => some { kind := 2, n := n } | _ => none) w) := by
  have c0 := ref_Words s hs (w.alloc (.cells zCmd 48))
  rw [h] at c0
  obtain ⟨R, hR⟩ : ∃ R : Option Cm, R = (match pInts l with | some [n] => some { kind := 2, n := n } | _ => none) := ⟨_, rfl⟩
  rw [← hR]
  have HR := hide hR
  clear hR h
  have f1 := na w zCmd 48
  have hb1 := bA (b0 w) (.cells zCmd 48)
  have a1 : (hd.toList == ([115, 121, 110, 99] : List UInt8)) = false := litNe _ (by rw [hh]; decide)
  have a2 : (hd.toList == ([102, 108, 117, 115, 104] : List UInt8)) = false := litNe _ (by rw [hh]; decide)
  have a3 : (hd.toList == ([99, 111, 109, 112, 97, 99, 116] : List UInt8)) = false := litNe _ (by rw [hh]; decide)
  have a4 : (hd.toList == ([112, 111, 119, 101, 114] : List UInt8)) = true := litEq _ (by rw [hh]; rfl)
  clear hh
  go_enter Tryz.func11, Tryz.ntmps11
  go_wp2_with fail
  refine c0.mono ?_
  rintro e w2 ⟨v, rfl, hO, hb2⟩
  obtain ⟨A, c, rfl, hr⟩ := hO.cr
  have f2 := kp hb2 f1
  have HB := hide (bB hb1 hb2)
  have hzc := zCmd_size
  have h1 := zCmd_one
  have hcap := hr.cap
  have hin := hr.inV
  rw [strV_len] at *
  obtain ⟨ad, rfl, hal, hc⟩ := hin (by simp [strV])
  have q0 := hc 0 (by simp [strV])
  simp only [strV, List.map_cons, List.getElem_cons_zero, addr0] at q0
  have hin2 := inV_from (j := 1) hcap hin
  have hlc : (hd :: l).length = l.length + 1 := rfl
  rw [hlc] at hcap ⊢
  have e3 : (hd :: l).drop 1 = l := rfl
  rw [e3] at hin2
  obtain ⟨A1, hA1⟩ : ∃ A1, A1 = some (if c - 1 = 0 then ad else ad.add 1) := ⟨_, rfl⟩
  obtain ⟨c1, hc1⟩ : ∃ c1, c1 = c - 1 := ⟨_, rfl⟩
  rw [← hA1] at hin2
  have HA1 := hide hA1
  have HC1 := hide hc1
  clear hA1 hc1
  have cN := ref_numbers A1 c1 l hl hz w2 hin2
  clear c0 hb1 hO hc hr hin hin2
  go_wp2_with (refine wpList_sliceFrom rfl _ _ rfl ad (l.length + 1) c 1 rfl rfl (by omega) hcap A1 l.length c1 HA1.out rfl HC1.out ?_; simp only [Act.put, List.setIfInBounds_toArray, List.set_cons_zero, List.set_cons_succ])
  refine cN.mono ?_
  rintro e w3 hp3
  have hB := HB.out
  cases hp : pInts l with
  | none =>
    rw [hp] at hp3
    obtain ⟨rfl, hb3⟩ := hp3
    have f3 := kp hb3 f2
    have HB3 := hide (bB hB hb3)
    have HN : Hid (R = none) := hide (by rw [HR.out, hp])
    clear hp hB hb3 f2 cN q0
    go_wp2_with (first | (refine wpList_buildW rfl _ _ rfl (.agg zCmd) #[] (by simp [Act.eval]) (build48_0 _) ?_; simp only [Act.put, List.setIfInBounds_toArray, List.set_cons_zero, List.set_cons_succ]) | (refine wpList_storeW rfl _ _ _ rfl w.heap.size 48 _ zCmd rfl rfl f3 (by rw [size48, hzc]) rfl h1 ?_; simp only [Act.put]))
    exact rq_no rfl rfl f3 zCmd_size HB3.out HN.out
  | some xs =>
    rw [hp] at hp3
    obtain ⟨v, rfl, hO3, hb3⟩ := hp3
    have f3 := kp hb3 f2
    have HB3 := hide (bB hB hb3)
    obtain ⟨A3, c3, rfl, hr3⟩ := hO3.cr
    have hin3 := hr3.inV
    rw [intV_len] at *
    clear hB hb3 f2 cN q0 hO3 hr3
    by_cases h1x : xs.length = 1
    · match xs, h1x with
      | [n], _ =>
        obtain ⟨Y, hY⟩ : ∃ Y, Y = cmdCs 2 ⟨0, 0, ⟨#[]⟩, 0, 0, 0, none, 0, 0, 0, ⟨#[]⟩, 0, 0, 0, 0, ⟨#[]⟩, 0, 0⟩ n none 0 0 := ⟨_, rfl⟩
        have bY := build48_power n
        have hYs : Y.size = 19 := by rw [hY]; rfl
        have hY1 : Y.all (·.oneCell') = true := by rw [hY]; exact cmd_one _ _ _ _ _ _
        have HC : Hid (∀ W, CmdIs w.heap.size W (.agg Y) { kind := 2, n := n }) := hide (by rw [hY]; exact fun W => ⟨none, 0, none, 0, rfl, RS.nil _, RS.nil _⟩)
        rw [← hY] at bY
        clear hY
        have HN : Hid (R = some { kind := 2, n := n }) := hide (by rw [HR.out, hp])
        obtain ⟨ad3, rfl, -, hc3⟩ := hin3 (by simp [intV])
        have q3 := hc3 0 (by simp [intV])
        simp only [intV, List.map_cons, List.getElem_cons_zero, addr0] at q3
        clear hp hc3 hin3
        simp only [List.length_cons, List.length_nil]
        go_wp2_with (first | (refine wpList_buildW rfl _ _ rfl (.agg Y) #[(0, .int .i64 2), (2, .int .i64 n)] (by simp [Act.eval]) (bY _) ?_; simp only [Act.put, List.setIfInBounds_toArray, List.set_cons_zero, List.set_cons_succ]) | (refine wpList_storeW rfl _ _ _ rfl w.heap.size 48 _ Y rfl rfl f3 (by rw [size48, hYs]) (by rw [hYs]; rfl) hY1 ?_; simp only [Act.put]))
        exact rq_yes rfl rfl f3 hYs HB3.out (HC.out _) HN.out
    · have HN : Hid (R = none) := hide (by
        rw [HR.out, hp]
        match xs, h1x with
        | [], _ => rfl
        | _ :: _ :: _, _ => rfl)
      have e5 : ((xs.length : Int) != 1) = true := by simp; omega
      have e6 : ((xs.length : Int) == 1) = false := by simp; omega
      have e7 : decide ((xs.length : Int) = 1) = false := decide_eq_false (by omega)
      clear hp hin3
      by_cases h300 : 300 < xs.length
      · have e8 : decide ((300 : Int) < (xs.length : Int)) = true := decide_eq_true (by omega)
        go_wp2_with (first | (refine wpList_buildW rfl _ _ rfl (.agg zCmd) #[] (by simp [Act.eval]) (build48_0 _) ?_; simp only [Act.put, List.setIfInBounds_toArray, List.set_cons_zero, List.set_cons_succ]) | (refine wpList_storeW rfl _ _ _ rfl w.heap.size 48 _ zCmd rfl rfl f3 (by rw [size48, hzc]) rfl h1 ?_; simp only [Act.put]))
        exact rq_no rfl rfl f3 zCmd_size HB3.out HN.out
      · have e8 : decide ((300 : Int) < (xs.length : Int)) = false := decide_eq_false (by omega)
        go_wp2_with (first | (refine wpList_buildW rfl _ _ rfl (.agg zCmd) #[] (by simp [Act.eval]) (build48_0 _) ?_; simp only [Act.put, List.setIfInBounds_toArray, List.set_cons_zero, List.set_cons_succ]) | (refine wpList_storeW rfl _ _ _ rfl w.heap.size 48 _ zCmd rfl rfl f3 (by rw [size48, hzc]) rfl h1 ?_; simp only [Act.put]))
        exact rq_no rfl rfl f3 zCmd_size HB3.out HN.out
end Go.Proofs.YtlnonecibpjcoaaGreatDoor

namespace Go.Proofs.YtlnonecibpjcoaaGreatDoor
open Go.RowKit
attribute [local go_sem] Oper.semAt_some

/-- a word that is none of those that stand without a name -/
structure NoBare (hd : ByteArray) : Prop where
  a1 : (hd.toList == ([115, 121, 110, 99] : List UInt8)) = false
  a2 : (hd.toList == ([102, 108, 117, 115, 104] : List UInt8)) = false
  a3 : (hd.toList == ([99, 111, 109, 112, 97, 99, 116] : List UInt8)) = false
  a4 : (hd.toList == ([112, 111, 119, 101, 114] : List UInt8)) = false
  a5 : (hd.toList == ([99, 114, 97, 115, 104] : List UInt8)) = false
theorem NoBare.of {hd : ByteArray} (h1 : hd ≠ wSync) (h2 : hd ≠ wFlush) (h3 : hd ≠ wCompact) (h4 : hd ≠ wPower) (h5 : hd ≠ wCrash) : NoBare hd :=
  ⟨litNe _ h1, litNe _ h2, litNe _ h3, litNe _ h4, litNe _ h5⟩

set_option maxRecDepth 100000 in
set_option maxHeartbeats 4000000 in
theorem ref_Parse_alone (hd : ByteArray) (hb : NoBare hd) (s : ByteArray) (hs : s.size ≤ 1000000) (h : rW s.data.toList ⟨#[]⟩ [] = some [hd]) (w : World) :
    Calls Tryz.prog 11 #[.string s] w (RPq none w) := by
  have c0 := ref_Words s hs (w.alloc (.cells zCmd 48))
  rw [h] at c0
  obtain ⟨R, hR⟩ : ∃ R : Option Cm, R = none := ⟨_, rfl⟩
  rw [← hR]
  have HR := hide hR
  clear hR h
  have f1 := na w zCmd 48
  have hb1 := bA (b0 w) (.cells zCmd 48)
  obtain ⟨a1, a2, a3, a4, a5⟩ := hb
  go_enter Tryz.func11, Tryz.ntmps11
  go_wp2_with fail
  refine c0.mono ?_
  rintro e w2 ⟨v, rfl, hO, hb2⟩
  obtain ⟨A, c, rfl, hr⟩ := hO.cr
  have f2 := kp hb2 f1
  have HB := hide (bB hb1 hb2)
  have hzc := zCmd_size
  have h1 := zCmd_one
  obtain ⟨ad, rfl, hal, hc⟩ := hr.inV (by simp [strV])
  have q0 := hc 0 (by simp [strV])
  simp only [strV, List.map_cons, List.getElem_cons_zero, addr0] at q0
  simp only [strV, List.map_cons, List.map_nil, List.length_cons, List.length_nil]
  clear c0 hb1 hO hc hr
  go_wp2_with (first | (refine wpList_buildW rfl _ _ rfl (.agg zCmd) #[] (by simp [Act.eval]) (build48_0 _) ?_; simp only [Act.put, List.setIfInBounds_toArray, List.set_cons_zero, List.set_cons_succ]) | (refine wpList_storeW rfl _ _ _ rfl w.heap.size 48 _ zCmd rfl rfl f2 (by rw [size48, hzc]) rfl h1 ?_; simp only [Act.put]))
  exact rq_no rfl rfl f2 zCmd_size HB.out HR.out

set_option maxRecDepth 100000 in
set_option maxHeartbeats 4000000 in
theorem ref_Parse_wide (hd nm : ByteArray) (r : List ByteArray) (hb : NoBare hd) (hn : ¬ nm.size ≤ 40) (s : ByteArray) (hs : s.size ≤ 1000000) (h : rW s.data.toList ⟨#[]⟩ [] = some (hd :: nm :: r)) (w : World) :
    Calls Tryz.prog 11 #[.string s] w (RPq none w) := by
  have c0 := ref_Words s hs (w.alloc (.cells zCmd 48))
  rw [h] at c0
  obtain ⟨R, hR⟩ : ∃ R : Option Cm, R = none := ⟨_, rfl⟩
  rw [← hR]
  have HR := hide hR
  clear hR h
  have f1 := na w zCmd 48
  have hb1 := bA (b0 w) (.cells zCmd 48)
  obtain ⟨a1, a2, a3, a4, a5⟩ := hb
  go_enter Tryz.func11, Tryz.ntmps11
  go_wp2_with fail
  refine c0.mono ?_
  rintro e w2 ⟨v, rfl, hO, hb2⟩
  obtain ⟨A, c, rfl, hr⟩ := hO.cr
  have f2 := kp hb2 f1
  have HB := hide (bB hb1 hb2)
  have hzc := zCmd_size
  have h1 := zCmd_one
  obtain ⟨ad, rfl, hal, hc⟩ := hr.inV (by simp [strV])
  have q0 := hc 0 (by simp [strV])
  have q1 := hc 1 (by simp [strV])
  simp only [strV, List.map_cons, List.getElem_cons_zero, List.getElem_cons_succ, addr0] at q0 q1
  have q1 : w2.cell? ⟨ad.block, ad.off + 1, none⟩ = some (.string nm) := by simpa [Addr.add] using q1
  rw [strV_len]
  have e0 : (hd :: nm :: r).length = r.length + 2 := rfl
  rw [e0]
  have e1 : decide (((r.length + 2 : Nat) : Int) < 2) = false := decide_eq_false (by omega)
  have e2 : decide ((r.length : Int) + 2 < 2) = false := decide_eq_false (by omega)
  have e3 : decide ((40 : Int) < (nm.size : Int)) = true := decide_eq_true (by omega)
  clear c0 hb1 hO hc hr
  go_wp2_with (first | (refine wpList_buildW rfl _ _ rfl (.agg zCmd) #[] (by simp [Act.eval]) (build48_0 _) ?_; simp only [Act.put, List.setIfInBounds_toArray, List.set_cons_zero, List.set_cons_succ]) | (refine wpList_storeW rfl _ _ _ rfl w.heap.size 48 _ zCmd rfl rfl f2 (by rw [size48, hzc]) rfl h1 ?_; simp only [Act.put]))
  exact rq_no rfl rfl f2 zCmd_size HB.out HR.out
end Go.Proofs.YtlnonecibpjcoaaGreatDoor

namespace Go.Proofs.YtlnonecibpjcoaaGreatDoor
open Go.RowKit
attribute [local go_sem] Oper.semAt_some

theorem build29_read (nm : ByteArray) (t b : Int) (w : World) : (Instr.build 29 #[(0, .int .i64 6), (3, .string nm), (4, .int .i64 t), (5, .int .u64 b)]).run Tryz.prog w = .ok (.agg (OpV.cs ⟨6, 0, ⟨#[]⟩, 0, 0, 0, none, 0, 0, 0, ⟨#[]⟩, 0, 0, 0, 0, nm, t, b⟩)) w := by kernel_rfl
theorem build48_op (o : OpV) (w : World) : (Instr.build 48 #[(0, .int .i64 1), (1, .agg o.cs)]).run Tryz.prog w = .ok (.agg (cmdCs 1 o 0 none 0 0)) w := by cases o; kernel_rfl

set_option maxRecDepth 100000 in
set_option maxHeartbeats 8000000 in
theorem ref_Parse_read (hd nm : ByteArray) (r : List ByteArray) (hb : NoBare hd) (a6 : (hd.toList == ([114, 101, 97, 100] : List UInt8)) = true) (hn : nm.size ≤ 40) (s : ByteArray) (hs : s.size ≤ 1000000) (h : rW s.data.toList ⟨#[]⟩ [] = some (hd :: nm :: r)) (hz : ∀ x ∈ r, x.size ≤ 1000000) (w : World) :
    Calls Tryz.prog 11 #[.string s] w (RPq (rRead nm r) w) := by
  have c0 := ref_Words s hs (w.alloc (.cells zCmd 48))
  rw [h] at c0
  obtain ⟨R, hR⟩ : ∃ R : Option Cm, R = rRead nm r := ⟨_, rfl⟩
  rw [← hR]
  have HR := hide hR
  clear hR h
  have f1 := na w zCmd 48
  have hb1 := bA (b0 w) (.cells zCmd 48)
  obtain ⟨a1, a2, a3, a4, a5⟩ := hb
  go_enter Tryz.func11, Tryz.ntmps11
  go_wp2_with fail
  refine c0.mono ?_
  rintro e w2 ⟨v, rfl, hO, hb2⟩
  obtain ⟨A, c, rfl, hr⟩ := hO.cr
  have f2 := kp hb2 f1
  have HB := hide (bB hb1 hb2)
  have hzc := zCmd_size
  have h1 := zCmd_one
  obtain ⟨ad, rfl, hal, hc⟩ := hr.inV (by simp [strV])
  have q0 := hc 0 (by simp [strV])
  have q1 := hc 1 (by simp [strV])
  simp only [strV, List.map_cons, List.getElem_cons_zero, List.getElem_cons_succ, addr0] at q0 q1
  have q1 : w2.cell? ⟨ad.block, ad.off + 1, none⟩ = some (.string nm) := by simpa [Addr.add] using q1
  rw [strV_len]
  have e0 : (hd :: nm :: r).length = r.length + 2 := rfl
  rw [e0]
  have e2 : decide ((r.length : Int) + 2 < 2) = false := decide_eq_false (by omega)
  have e3 : decide ((40 : Int) < (nm.size : Int)) = false := decide_eq_false (by omega)
  by_cases hr2 : r.length = 2
  · match r, hr2 with
    | [x, y], _ =>
      have q2 := hc 2 (by simp [strV])
      have q3 := hc 3 (by simp [strV])
      simp only [strV, List.map_cons, List.getElem_cons_zero, List.getElem_cons_succ, addr0] at q2 q3
      have q2 : w2.cell? ⟨ad.block, ad.off + 2, none⟩ = some (.string x) := by simpa [Addr.add] using q2
      have q3 : w2.cell? ⟨ad.block, ad.off + 3, none⟩ = some (.string y) := by simpa [Addr.add] using q3
      have cx := fun W => ref_Number x (hz x (by simp)) W
      have cy := fun W => ref_Bits y (hz y (by simp)) W
      simp only [rNum_is] at cx
      clear c0 hb1 hO hc hr hz e0
      simp only [List.length_cons, List.length_nil] at *
      obtain ⟨t, okt, ht, hv⟩ : ∃ (t : Int) (okt : Bool), numR (numW x) = .tuple #[.int .i64 t, .bool okt] ∧ numW x = if okt then some t else none := by
        cases numW x with
        | none => exact ⟨0, false, rfl, rfl⟩
        | some v => exact ⟨v, true, rfl, rfl⟩
      obtain ⟨b, okb, hbq, hbv⟩ : ∃ (b : Nat) (okb : Bool), numQ (rBits y) = .tuple #[.int .u64 (b : Int), .bool okb] ∧ rBits y = if okb then some b else none := by
        cases rBits y with
        | none => exact ⟨0, false, rfl, rfl⟩
        | some v => exact ⟨v, true, rfl, rfl⟩
      rw [ht] at cx
      rw [hbq] at cy
      have HN : Hid (R = if okt && okb then some { ok := 6, nm := nm, t := t, bits := (b : Int) } else none) := hide (by
        rw [HR.out, rRead, hv]
        rw [show (if y.size = 16 then hexW y.data.toList 0 else none) = rBits y from rfl, hbv]
        cases okt <;> cases okb <;> rfl)
      clear HR ht hv hbq hbv
      obtain ⟨X, hX⟩ : ∃ X, X = OpV.cs ⟨6, 0, ⟨#[]⟩, 0, 0, 0, none, 0, 0, 0, ⟨#[]⟩, 0, 0, 0, 0, nm, t, (b : Int)⟩ := ⟨_, rfl⟩
      obtain ⟨Y, hY⟩ : ∃ Y, Y = cmdCs 1 ⟨6, 0, ⟨#[]⟩, 0, 0, 0, none, 0, 0, 0, ⟨#[]⟩, 0, 0, 0, 0, nm, t, (b : Int)⟩ 0 none 0 0 := ⟨_, rfl⟩
      have bX := build29_read nm t (b : Int)
      have bY := build48_op ⟨6, 0, ⟨#[]⟩, 0, 0, 0, none, 0, 0, 0, ⟨#[]⟩, 0, 0, 0, 0, nm, t, (b : Int)⟩
      have hYs : Y.size = 19 := by rw [hY]; rfl
      have hY1 : Y.all (·.oneCell') = true := by rw [hY]; exact cmd_one _ _ _ _ _ _
      have HC : Hid (∀ W, CmdIs w.heap.size W (.agg Y) { ok := 6, nm := nm, t := t, bits := (b : Int) }) := hide (by rw [hY]; exact fun W => ⟨none, 0, none, 0, rfl, RS.nil _, RS.nil _⟩)
      rw [← hX] at bX bY
      rw [← hY] at bY
      clear hX hY
      go_wp2_with fail
      refine (cx _).mono ?_
      rintro e w3 ⟨rfl, rfl⟩
      go_wp2_with fail
      refine (cy _).mono ?_
      rintro e w4 ⟨rfl, rfl⟩
      cases okt <;> cases okb
      all_goals go_wp2_with (first | (refine wpList_buildW rfl _ _ rfl (.agg X) #[(0, .int .i64 6), (3, .string nm), (4, .int .i64 t), (5, .int .u64 (b : Int))] (by simp [Act.eval]) (bX _) ?_; simp only [Act.put, List.setIfInBounds_toArray, List.set_cons_zero, List.set_cons_succ]) | (refine wpList_buildW rfl _ _ rfl (.agg Y) #[(0, .int .i64 1), (1, .agg X)] (by simp [Act.eval]) (bY _) ?_; simp only [Act.put, List.setIfInBounds_toArray, List.set_cons_zero, List.set_cons_succ]) | (refine wpList_storeW rfl _ _ _ rfl w.heap.size 48 _ Y rfl rfl f2 (by rw [size48, hYs]) (by rw [hYs]; rfl) hY1 ?_; simp only [Act.put]))
      all_goals first | exact rq_no rfl rfl f2 hYs HB.out (by rw [HN.out]; rfl) | exact rq_yes rfl rfl f2 hYs HB.out (HC.out _) (by rw [HN.out]; rfl)
  · have HN : Hid (R = none) := hide (by
      rw [HR.out]
      match r, hr2 with
      | [], _ => rfl
      | [_], _ => rfl
      | _ :: _ :: _ :: _, _ => rfl)
    have e5 : ((r.length : Int) + 2 != 4) = true := by simp; omega
    have e6 : ((r.length : Int) + 2 == 4) = false := by simp; omega
    have e7 : decide ((r.length : Int) + 2 = 4) = false := decide_eq_false (by omega)
    clear c0 hb1 hO hc hr hz e0 HR
    go_wp2_with (first | (refine wpList_buildW rfl _ _ rfl (.agg zCmd) #[] (by simp [Act.eval]) (build48_0 _) ?_; simp only [Act.put, List.setIfInBounds_toArray, List.set_cons_zero, List.set_cons_succ]) | (refine wpList_storeW rfl _ _ _ rfl w.heap.size 48 _ zCmd rfl rfl f2 (by rw [size48, hzc]) rfl h1 ?_; simp only [Act.put]))
    exact rq_no rfl rfl f2 zCmd_size HB.out HN.out
end Go.Proofs.YtlnonecibpjcoaaGreatDoor
