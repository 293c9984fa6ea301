/- ConsoleWrong: texts of good lines (plain). ConsoleWrong: commands that come in. The console at this program: a command that came in. ConsoleWrong: a row of commands that came in. ConsoleWrong: the text that the law makes. -/
import Derived.Test.YtbiedfkmmcaplaaGreatDoorRf
import Derived.Test.YtbiedfkmmcaplaaGreatDoorQf
import Derived.Test.YtbiedfkmmcaplaaGreatDoorRb
import Derived.Test.YtbiedfkmmcaplaaGreatDoorQg
set_option linter.all false
namespace Go.Proofs.YtbiedfkmmcaplaaGreatDoor

theorem textOf_snoc (l : ByteArray) : ∀ ls : List ByteArray, textOf (ls ++ [l]) ⟨#[]⟩ = textOf ls ⟨#[]⟩ ++ (l ++ ⟨#[10]⟩)
  | [] => by
    apply ByteArray.ext
    simp [textOf]
  | x :: ls => by
    have ih := textOf_snoc l ls
    simp only [List.cons_append, textOf, ih]
    apply ByteArray.ext
    simp
theorem textOf_app (t : ByteArray) : ∀ ls : List ByteArray, textOf ls ⟨#[]⟩ ++ t = textOf ls t
  | [] => by
    apply ByteArray.ext
    simp [textOf]
  | x :: ls => by
    have ih := textOf_app t ls
    simp only [textOf, ← ih]
    apply ByteArray.ext
    simp
theorem textOf_count : ∀ ls : List ByteArray, (∀ l ∈ ls, (10 : UInt8) ∉ l.data.toList) → (textOf ls ⟨#[]⟩).data.toList.count 10 = ls.length
  | [], _ => by simp [textOf]
  | x :: ls, h => by
    have ih := textOf_count ls (fun l hl => h l (List.mem_cons_of_mem _ hl))
    have hx := List.count_eq_zero.2 (h x List.mem_cons_self)
    simp only [textOf, ByteArray.data_append, Array.toList_append, List.count_append, ih, hx, List.length_cons]
    simp
    omega
def pgB : Nat → ByteArray
  | 0 => ⟨#[112, 97, 103, 101, 115, 32, 50, 52]⟩
  | 1 => ⟨#[112, 97, 103, 101, 115, 32, 52, 48]⟩
  | _ => ⟨#[112, 97, 103, 101, 115, 32, 50, 53, 54]⟩
end Go.Proofs.YtbiedfkmmcaplaaGreatDoor

namespace Go.Proofs.YtbiedfkmmcaplaaGreatDoor
open Go.RowKit

theorem cmd_cells (c : Cm) (A : Option Addr) (ac : Nat) (M : Option Addr) (mc : Nat) : (c.cs A ac M mc).all (·.oneCell') = true := cmd_one _ _ _ _ _ _
structure CmIn (c : Cm) : Prop where
  n : i64In c.n
  me : i64In c.me
  mf : i64In c.mf
  ms : i64In c.ms
  qa : i64In c.qa
  qb : i64In c.qb
  qN : i64In c.qN
  t : i64In c.t
  bits : 0 ≤ c.bits ∧ c.bits < 18446744073709551616
  masks : ∀ x ∈ c.masks, i64In x
  pts : ∀ p ∈ c.pts, i64In p.1 ∧ i64In p.2
theorem few_ok {c : Cm} (h : CmIn c) : CmOK (fewC c) :=
  ⟨h.n, h.me, h.mf, h.ms, h.qa, h.qb, h.qN, h.t, h.bits, fun x hx => h.masks x (List.mem_of_mem_take hx), fun p hp => h.pts p (List.mem_of_mem_take hp),
    by show (c.masks.take 310).length ≤ 1000; rw [List.length_take]; omega, by show (c.pts.take 40).length ≤ 1000; rw [List.length_take]; omega⟩
theorem long_no {c : Cm} (h : longB c = false) : Short c := by
  unfold longB at h
  simp only [Bool.or_eq_false_iff, decide_eq_false_iff_not] at h
  exact ⟨by omega, by omega, by omega⟩

end Go.Proofs.YtbiedfkmmcaplaaGreatDoor

namespace Go.Proofs.YtbiedfkmmcaplaaGreatDoor
open Go.ChangeShapes Go.WideShapes Go.ChangeAt Go.RowKit Go.Joins Go.Deep
section
variable {H : Type} {enc : TypeId × Value → H} {w : World} {base : Nat} {sp : Nat → Bool} {held : Bool} {fuel : Nat} {cs : List Value} {x : DataW H × List MemPlace}
set_option maxRecDepth 100000 in
theorem op48 (h : DataW.trod enc Tryz.prog w base sp held fuel 38 cs = some x) : ∃ (a0 : Int) (a1_0 : Int) (a1_1_0 : Int) (a1_1_1 : ByteArray) (a1_1_2 : Int) (a1_1_3 : Int) (a1_1_4 : Int) (a1_1_5X : Option Addr) (a1_1_5n : Nat) (a1_1_5C : Nat) (a1_1_5r : List (List Int)) (a1_2_0 : Int) (a1_2_1 : ByteArray) (a1_2_2 : Int) (a1_2_3 : Int) (a1_2_4 : Int) (a1_2_5 : Int) (a1_3 : ByteArray) (a1_4 : Int) (a1_5 : Int) (a2 : Int) (a3X : Option Addr) (a3n : Nat) (a3C : Nat) (a3r : List (List Int)), cs = [.int .i64 a0, .int .i64 a1_0, .int .i64 a1_1_0, .string a1_1_1, .int .i64 a1_1_2, .int .i64 a1_1_3, .int .i64 a1_1_4, .slice a1_1_5X a1_1_5n a1_1_5C, .int .i64 a1_2_0, .string a1_2_1, .int .i64 a1_2_2, .int .i64 a1_2_3, .int .i64 a1_2_4, .int .i64 a1_2_5, .string a1_3, .int .i64 a1_4, .int .u64 a1_5, .int .i64 a2, .slice a3X a3n a3C] ∧ i64In a0 ∧ i64In a1_0 ∧ i64In a1_1_0 ∧ a1_1_1.size ≤ 9223372036854775807 ∧ i64In a1_1_2 ∧ i64In a1_1_3 ∧ i64In a1_1_4 ∧ RowsIn w a1_1_5X a1_1_5n a1_1_5C 2 a1_1_5r ∧ i64In a1_2_0 ∧ a1_2_1.size ≤ 9223372036854775807 ∧ i64In a1_2_2 ∧ i64In a1_2_3 ∧ i64In a1_2_4 ∧ i64In a1_2_5 ∧ a1_3.size ≤ 9223372036854775807 ∧ i64In a1_4 ∧ (0 ≤ a1_5 ∧ a1_5 < 18446744073709551616) ∧ i64In a2 ∧ RowsIn w a3X a3n a3C 1 a3r := by
  obtain ⟨xs, n, _, _, hlen, hxl, hf⟩ := DataW.trod_struct Tryz.underlying38 h
  have hC : Tryz.prog.cellsOf 38 = 19 := by kernel_rfl
  have hC3 : Tryz.prog.cellsOf 3 = 1 := by kernel_rfl
  have hC29 : Tryz.prog.cellsOf 35 = 16 := by kernel_rfl
  have hC46 : Tryz.prog.cellsOf 36 = 1 := by kernel_rfl
  rw [hC] at hlen
  match cs, hlen, xs, hxl with
  | [c0, c1, c2, c3, c4, c5, c6, c7, c8, c9, c10, c11, c12, c13, c14, c15, c16, c17, c18], _, [y0, y1, y2, y3], _ =>
    have k0 : DataW.trod enc Tryz.prog w base sp held n 3 ((([c0, c1, c2, c3, c4, c5, c6, c7, c8, c9, c10, c11, c12, c13, c14, c15, c16, c17, c18] : List Value).drop 0).take (Tryz.prog.cellsOf 3)) = some y0 := hf 0 _ rfl
    rw [hC3] at k0
    obtain ⟨a0, e0, f0_0⟩ := op_int Tryz.underlying3 k0
    have k1 : DataW.trod enc Tryz.prog w base sp held n 35 ((([c0, c1, c2, c3, c4, c5, c6, c7, c8, c9, c10, c11, c12, c13, c14, c15, c16, c17, c18] : List Value).drop 1).take (Tryz.prog.cellsOf 35)) = some y1 := hf 1 _ rfl
    rw [hC29] at k1
    obtain ⟨a1_0, a1_1_0, a1_1_1, a1_1_2, a1_1_3, a1_1_4, a1_1_5X, a1_1_5n, a1_1_5C, a1_1_5r, a1_2_0, a1_2_1, a1_2_2, a1_2_3, a1_2_4, a1_2_5, a1_3, a1_4, a1_5, e1, f1_0, f1_1, f1_2, f1_3, f1_4, f1_5, f1_6, f1_7, f1_8, f1_9, f1_10, f1_11, f1_12, f1_13, f1_14, f1_15⟩ := op29 k1
    have k2 : DataW.trod enc Tryz.prog w base sp held n 3 ((([c0, c1, c2, c3, c4, c5, c6, c7, c8, c9, c10, c11, c12, c13, c14, c15, c16, c17, c18] : List Value).drop 17).take (Tryz.prog.cellsOf 3)) = some y2 := hf 2 _ rfl
    rw [hC3] at k2
    obtain ⟨a2, e2, f2_0⟩ := op_int Tryz.underlying3 k2
    have k3 : DataW.trod enc Tryz.prog w base sp held n 36 ((([c0, c1, c2, c3, c4, c5, c6, c7, c8, c9, c10, c11, c12, c13, c14, c15, c16, c17, c18] : List Value).drop 18).take (Tryz.prog.cellsOf 36)) = some y3 := hf 3 _ rfl
    rw [hC46] at k3
    obtain ⟨a3X, a3n, a3C, a3r, e3, f3_0⟩ := op_rows Tryz.underlying36 (by kernel_rfl) (by decide) (fun _ _ => oi3) k3
    refine ⟨a0, a1_0, a1_1_0, a1_1_1, a1_1_2, a1_1_3, a1_1_4, a1_1_5X, a1_1_5n, a1_1_5C, a1_1_5r, a1_2_0, a1_2_1, a1_2_2, a1_2_3, a1_2_4, a1_2_5, a1_3, a1_4, a1_5, a2, a3X, a3n, a3C, a3r, ?_, f0_0, f1_0, f1_1, f1_2, f1_3, f1_4, f1_5, f1_6, f1_7, f1_8, f1_9, f1_10, f1_11, f1_12, f1_13, f1_14, f1_15, f2_0, f3_0⟩
    have hh : ([c0, c1, c2, c3, c4, c5, c6, c7, c8, c9, c10, c11, c12, c13, c14, c15, c16, c17, c18] : List Value) = ((([c0, c1, c2, c3, c4, c5, c6, c7, c8, c9, c10, c11, c12, c13, c14, c15, c16, c17, c18] : List Value).drop 0).take 1) ++ ((([c0, c1, c2, c3, c4, c5, c6, c7, c8, c9, c10, c11, c12, c13, c14, c15, c16, c17, c18] : List Value).drop 1).take 16) ++ ((([c0, c1, c2, c3, c4, c5, c6, c7, c8, c9, c10, c11, c12, c13, c14, c15, c16, c17, c18] : List Value).drop 17).take 1) ++ ((([c0, c1, c2, c3, c4, c5, c6, c7, c8, c9, c10, c11, c12, c13, c14, c15, c16, c17, c18] : List Value).drop 18).take 1) := rfl
    rw [hh, e0, e1, e2, e3]
    rfl
end
theorem rows_two : ∀ rows : List (List Int), (∀ r ∈ rows, r.length = 2 ∧ ∀ x ∈ r, i64In x) → ∃ ps : List (Int × Int), ps.length = rows.length ∧ intV rows.flatten = ptsV ps ∧ ∀ p ∈ ps, i64In p.1 ∧ i64In p.2
  | [], _ => ⟨[], rfl, rfl, fun p hp => by cases hp⟩
  | r :: rows, h => by
    obtain ⟨ps, h1, h2, h3⟩ := rows_two rows fun q hq => h q (List.mem_cons_of_mem _ hq)
    obtain ⟨hl, hi⟩ := h r List.mem_cons_self
    match r, hl, hi with
    | [a, b], _, hi =>
      refine ⟨(a, b) :: ps, by simp [h1], ?_, fun p hp => ?_⟩
      · rw [List.flatten_cons, intV_app, h2]; rfl
      · rcases List.mem_cons.1 hp with rfl | hp
        · exact ⟨hi a (by simp), hi b (by simp)⟩
        · exact h3 p hp
theorem rows_one : ∀ rows : List (List Int), (∀ r ∈ rows, r.length = 1 ∧ ∀ x ∈ r, i64In x) → rows.flatten.length = rows.length ∧ ∀ x ∈ rows.flatten, i64In x
  | [], _ => ⟨rfl, fun p hp => by cases hp⟩
  | r :: rows, h => by
    obtain ⟨h1, h3⟩ := rows_one rows fun q hq => h q (List.mem_cons_of_mem _ hq)
    obtain ⟨hl, hi⟩ := h r List.mem_cons_self
    match r, hl, hi with
    | [a], _, hi =>
      refine ⟨by simp [h1], fun p hp => ?_⟩
      rw [List.flatten_cons] at hp
      rcases List.mem_append.1 hp with hp | hp
      · exact hi p hp
      · exact h3 p hp
theorem op_cmd {H : Type} {enc : TypeId × Value → H} {w : World} {base : Nat} {sp : Nat → Bool} {held : Bool} {fuel : Nat} {cs : List Value} {x : DataW H × List MemPlace} (h : DataW.trod enc Tryz.prog w base sp held fuel 38 cs = some x) :
    ∃ (c : Cm) (A : Option Addr) (ac : Nat) (M : Option Addr) (mc : Nat), cs = (c.cs A ac M mc).toList ∧ CmIn c ∧ InK w A c.pts.length 2 (ptsV c.pts) ∧ c.pts.length ≤ ac ∧ InK w M c.masks.length 1 (intV c.masks) ∧ c.masks.length ≤ mc := by
  obtain ⟨a0, b0, c0, c1, c2, c3, c4, pX, pn, pC, pr, d0, d1, d2, d3, d4, d5, e3, e4, e5, a2, mX, mn, mC, mr, rfl, -, -, -, -, i2, i3, i4, hP, -, -, i7, i8, -, ia, -, ib, ic, id2, hM⟩ := op48 h
  obtain ⟨ps, p1, p2, p3⟩ := rows_two pr hP.each
  obtain ⟨m1, m2⟩ := rows_one mr hM.each
  have hpn : pn = ps.length := by rw [p1, hP.len]
  have hmn : mn = mr.flatten.length := by rw [m1, hM.len]
  have kp := hP.ink
  have km := hM.ink
  have cp := hP.cap
  have cm := hM.cap
  rw [p2] at kp
  subst hpn hmn
  exact ⟨⟨a0, b0, c0, c1, c2, c3, c4, ps, d0, d1, d2, d3, d4, d5, e3, e4, e5, a2, mr.flatten⟩, pX, pC, mX, mC, rfl,
    ⟨id2, i2, i3, i4, i7, i8, ia, ib, ic, m2, p3⟩, kp, cp, km, cm⟩
end Go.Proofs.YtbiedfkmmcaplaaGreatDoor

namespace Go.Proofs.YtbiedfkmmcaplaaGreatDoor
open Go.ChangeShapes Go.WideShapes Go.ChangeAt Go.RowKit Go.Joins Go.Deep

def CmAt (w : World) (ad : Addr) (c : Cm) : Prop := ∃ A ac M mc, (∀ j v, (c.cs A ac M mc).toList[j]? = some v → w.cell? (ad.add j) = some v) ∧ InK w A c.pts.length 2 (ptsV c.pts) ∧ c.pts.length ≤ ac ∧ InK w M c.masks.length 1 (intV c.masks) ∧ c.masks.length ≤ mc
theorem CmAt.below {w w' : World} {ad : Addr} {c : Cm} (h : CmAt w ad c) (hb : Below w.heap.size w w') : CmAt w' ad c := by
  obtain ⟨A, ac, M, mc, h1, h2, h3, h4, h5⟩ := h
  refine ⟨A, ac, M, mc, fun j v hv => ?_, h2.below hb, h3, h4.below hb, h5⟩
  have q := h1 j v hv
  rw [← q]
  exact hb.cell (p := ad.add j) (lt_of_cell q)
def CmRow (w : World) (X : Option Addr) (cs : List Cm) : Prop := ∀ k (hk : k < cs.length), ∃ ad, X = some ad ∧ CmAt w (ad.add (k * 19)) cs[k]
theorem CmRow.below {w w' : World} {X : Option Addr} {cs : List Cm} (h : CmRow w X cs) (hb : Below w.heap.size w w') : CmRow w' X cs := fun k hk => by
  obtain ⟨ad, e, h1⟩ := h k hk
  exact ⟨ad, e, h1.below hb⟩
set_option maxRecDepth 100000 in
theorem op_cmds {H : Type} {enc : TypeId × Value → H} {w : World} {base : Nat} {sp : Nat → Bool} {held : Bool} {fuel : Nat} {cs : List Value} {x : DataW H × List MemPlace} (h : DataW.trod enc Tryz.prog w base sp held fuel 22 cs = some x) :
    ∃ (X : Option Addr) (C : Nat) (cms : List Cm), cs = [.slice X cms.length C] ∧ cms.length ≤ 9223372036854775807 ∧ (∀ c ∈ cms, CmIn c) ∧ CmRow w X cms := by
  have hC : Tryz.prog.cellsOf 38 = 19 := by kernel_rfl
  rcases open_slice Tryz.underlying22 h with ⟨rfl, _⟩ | ⟨a, len, cap, m, n', D, Pl, rfl, hb, hl, hm, hmm, _, hi⟩
  · exact ⟨none, 0, [], rfl, by decide, fun r hr => (by simp at hr), fun k hk => (by simp at hk)⟩
  · have hlm : len ≤ m := by rw [hmm]; split <;> omega
    obtain ⟨cms, h1, h2⟩ := list_at (cell := fun i (c : Cm) => CmIn c ∧ CmAt w (a.add (i * 19)) c) len (fun i him => by
      obtain ⟨cs', hc, ht'⟩ := hi i (by omega)
      rw [hC] at hc
      obtain ⟨_, _, hat⟩ := World.cells?_some hc
      obtain ⟨c, A, ac, M, mc, rfl, hci, hA, hac, hM, hmc⟩ := op_cmd ht'
      refine ⟨c, hci, A, ac, M, mc, fun j v hv => ?_, hA, hac, hM, hmc⟩
      have hjl : j < (c.cs A ac M mc).toList.length := (List.getElem?_eq_some_iff.1 hv).1
      have q := hat j (by rw [show (c.cs A ac M mc).toList.length = 19 from rfl] at hjl; simpa using hjl)
      rw [q]
      exact hv)
    subst h1
    refine ⟨some a, cap, cms, rfl, by unfold maxLen at hm; omega, fun c hc => ?_, fun k hk => ⟨a, rfl, (h2 k hk).2⟩⟩
    obtain ⟨i, hi', rfl⟩ := List.getElem_of_mem hc
    exact (h2 i hi').1
end Go.Proofs.YtbiedfkmmcaplaaGreatDoor

namespace Go.Proofs.YtbiedfkmmcaplaaGreatDoor
open Go.RowKit
attribute [local go_sem] Oper.semAt_some

theorem run_loadVar_at (w : World) (ad : Addr) (ty : TypeId) (X : Array Value) (d : TypeDesc) (hc : ∀ j v, X.toList[j]? = some v → w.cell? (ad.add j) = some v) (hu : Tryz.prog.underlying ty = some d) (hd : d.isRow = true) (hi : (Tryz.prog.info? ty).map (·.size) = some X.size) : (loadVar ty ad).run Tryz.prog w = .ok (.agg X) w := by
  have hl : (loadCells ad X.toList.length).run Tryz.prog w = .ok X.toList.toArray w := run_loadCells_list (P := Tryz.prog) w ad X.toList hc
  cases hq : Tryz.prog.info? ty with
  | none => simp [hq] at hi
  | some i =>
    have hs : i.size = X.size := by simpa [hq] using hi
    have hagg : (isAgg ty).run Tryz.prog w = .ok true w := by
      unfold isAgg
      rw [Sem.run_bind, run_underlying hu w]
      cases d <;> simp_all [TypeDesc.isRow]
    simp only [Array.length_toList, Array.toArray_toList] at hl
    simp [loadVar, Sem.run_bind, hagg, sizeOf, typeInfo, hq, hs, hl]
theorem wpList_loadK {ops : Array Oper} {rest : List Oper} {o : Oper} {a : Act} {w : World} {Q : Exit → Act → World → Prop} (hgd : o.guard = none) (t : TypeId) (p : Operand)
    (ho : o.op = .load t p) (ad : Addr) (X : Array Value) (hp : a.eval p = .pointer (some ad)) (hc : ∀ j v, X.toList[j]? = some v → w.cell? (ad.add j) = some v)
    (d : TypeDesc) (hd : d.isRow = true) (hu : Tryz.prog.underlying t = some d) (hi : (Tryz.prog.info? t).map (·.size) = some X.size)
    (h : wpList Tryz.prog ops Q rest (a.put o.dst (.agg X)) w) : wpList Tryz.prog ops Q (o :: rest) a w := by
  refine wpList_plain hgd fun _ hK => ?_
  unfold Oper.wp execOp
  simp only [ho, hp, Instr.loadAt, Instr.sureAddr, Sem.run_bind, Sem.run_pure, Result.andThen_ok]
  rw [run_loadVar_at w ad t X d hc hu hd hi]
  exact hK _ _ h

structure MadeOK (g0 : ByteArray) (ls : List ByteArray) : Prop where
  g : g0 = pgB 0 ∨ g0 = pgB 1 ∨ g0 = pgB 2
  len : ls.length ≤ 40
  good : ∀ l ∈ ls, l.size ≤ 10000 ∧ (∃ c, pLine l = some c) ∧ (10 : UInt8) ∉ l.data.toList
  size : (textOf (g0 :: ls) ⟨#[]⟩).size ≤ 64536
theorem not_lf {l : ByteArray} (h : Lib.contains l.data.toList [10] = false) : (10 : UInt8) ∉ l.data.toList := fun hm => by
  obtain ⟨a, b, e, ha⟩ := List.eq_append_cons_of_mem hm
  unfold Lib.contains at h
  rw [Lib.index_one, e, indexByte_at 10 b a ha] at h
  simp at h

theorem MadeOK.add {g0 S : ByteArray} {ls : List ByteArray} (h : MadeOK g0 ls) (hl : ls.length < 40) (hS : S.size ≤ 10000 ∧ (∃ c, pLine S = some c) ∧ (10 : UInt8) ∉ S.data.toList) (hs : (textOf (g0 :: ls) ⟨#[]⟩).size + S.size + 1 ≤ 64536) : MadeOK g0 (ls ++ [S]) :=
  ⟨h.g, by simp; omega, fun l hm => by
    rcases List.mem_append.1 hm with hm | hm
    · exact h.good l hm
    · rw [List.mem_singleton.1 hm]; exact hS, by
    rw [← List.cons_append, textOf_snoc]
    simp only [ByteArray.size_append]
    have : (⟨#[10]⟩ : ByteArray).size = 1 := rfl
    omega⟩
theorem line_good {d : Cm} (hc : CmOK d) (hs : Short d) {S : ByteArray} (h : LineR d (some S)) : S.size ≤ 10000 ∧ (∃ c, pLine S = some c) ∧ (10 : UInt8) ∉ S.data.toList :=
  ⟨by rw [h.1]; exact line_size hc hs (Nat.le_trans h.2.1 (by decide)) (Nat.le_trans h.2.2.1 (by decide)), ⟨d, h.2.2.2⟩, not_lf (line_back h.2.2.2).2.2.1⟩

set_option maxRecDepth 100000 in
set_option maxHeartbeats 16000000 in
theorem con_made (pg : Int) (cs : List Cm) (X : Option Addr) (C : Nat) (w : World) (hL : Laid w) (hD : Deb w) (hR : CmRow w X cs) (hI : ∀ c ∈ cs, CmIn c) (hn : cs.length ≤ 9223372036854775807) :
    Calls Tryz.prog 5 #[.int .i64 pg, .slice X cs.length C] w fun e w' => ∃ g0 ls, e = .returned (.tuple #[.string (textOf (g0 :: ls) ⟨#[]⟩), .int .i64 (ls.length : Int)]) ∧ MadeOK g0 ls ∧ Below w.heap.size w w' := by
  obtain ⟨n, hcn⟩ : ∃ n, n = cs.length := ⟨_, rfl⟩
  rw [← hcn] at hn ⊢
  have HCN := hide hcn
  have HR := hide (fun W (hb : Below w.heap.size w W) => hR.below hb)
  have HL := hide (fun W (hb : Below w.heap.size w W) => hL.below hb)
  have HDB := hide (fun W (hb : Below w.heap.size w W) => hD.below hb)
  have HI := hide hI
  clear hcn hR hL hD hI
  have hzc := zCmd_size
  have hu : (IntKind.u64.wrap pg).tmod 3 = 0 ∨ (IntKind.u64.wrap pg).tmod 3 = 1 ∨ (IntKind.u64.wrap pg).tmod 3 = 2 := by
    have h0 : 0 ≤ IntKind.u64.wrap pg := by
      unfold IntKind.wrap
      simp [IntKind.signed, IntKind.bits]
      omega
    have h1 := Int.tmod_nonneg 3 h0
    have h2 := Int.tmod_lt_of_pos (IntKind.u64.wrap pg) (show (0 : Int) < 3 by decide)
    omega
  rcases hu with hu | hu | hu
  all_goals
    go_enter Tryz.func5, Tryz.ntmps5
    go_wp2_with fail
    go_loopw [6, 7, 22] (fun v6 v7 v22 wr => ∃ (k : Nat) (g0 : ByteArray) (ls : List ByteArray), v22 = .int .i64 (k : Int) ∧ k ≤ n ∧ v6 = .string (textOf (g0 :: ls) ⟨#[]⟩) ∧ v7 = .int .i64 (ls.length : Int) ∧ Hid (MadeOK g0 ls) ∧ Hid (k ≤ 40 ∧ ls.length ≤ k) ∧ Hid (Below w.heap.size w wr)) (fun _ _ v22 _ => n - (intOf v22).toNat)
    case atStart =>
      first
        | exact ⟨0, pgB 0, [], rfl, Nat.zero_le _, rfl, rfl, hide ⟨.inl rfl, by decide, fun l hl => (by cases hl), by decide⟩, hide ⟨by decide, Nat.le_refl _⟩, hide (bA (b0 w) _)⟩
        | exact ⟨0, pgB 1, [], rfl, Nat.zero_le _, rfl, rfl, hide ⟨.inr (.inl rfl), by decide, fun l hl => (by cases hl), by decide⟩, hide ⟨by decide, Nat.le_refl _⟩, hide (bA (b0 w) _)⟩
        | exact ⟨0, pgB 2, [], rfl, Nat.zero_le _, rfl, rfl, hide ⟨.inr (.inr rfl), by decide, fun l hl => (by cases hl), by decide⟩, hide ⟨by decide, Nat.le_refl _⟩, hide (bA (b0 w) _)⟩
    case round =>
      obtain ⟨k, g0, ls, rfl, hk, rfl, rfl, HM, HK, HB⟩ := hrel
      clear hu
      obtain ⟨T, hT⟩ : ∃ T, T = textOf (g0 :: ls) ⟨#[]⟩ := ⟨_, rfl⟩
      rw [← hT]
      have HT := hide hT
      clear hT
      by_cases hlt : k < n
      · have e1 : decide ((k : Int) < (n : Int)) = true := decide_eq_true (by omega)
        have hkc : k < cs.length := by have := HCN.out; omega
        obtain ⟨ad, rfl, A, ac, M, mc, hcl, hA, hac, hM, hmc⟩ := HR.out wr HB.out k hkc
        have hci := few_ok (HI.out _ (List.getElem_mem hkc))
        obtain ⟨c, hc⟩ : ∃ c, c = cs[k] := ⟨_, rfl⟩
        rw [← hc] at hcl hA hac hM hmc hci
        have HFW := hide (fun W (hb : Below wr.heap.size wr W) => con_few c A ac M mc W (hA.below hb) hac (hM.below hb) hmc)
        obtain ⟨V, hV⟩ : ∃ V, V = c.cs A ac M mc := ⟨_, rfl⟩
        have hVs : V.size = 19 := by rw [hV]; rfl
        have hV1 : V.all (·.oneCell') = true := by rw [hV]; exact cmd_cells _ _ _ _ _
        rw [← hV] at hcl HFW
        have HC := hide hci
        obtain ⟨d, hd⟩ : ∃ d, d = fewC c := ⟨_, rfl⟩
        rw [← hd] at HC HFW
        clear hc hV hA hac hM hmc hci hd
        have hk40 := HK.out
        by_cases h40 : k = 40
        · have e2 : ((k : Int) == 40) = true := beq_iff_eq.2 (by omega)
          have e3 : decide ((k : Int) = 40) = true := decide_eq_true (by omega)
          clear h40 hk40
          go_wp2_with (first
            | (refine wpList_loadK rfl 38 _ rfl _ V rfl hcl _ rfl Tryz.underlying38 (by rw [size48, hVs]) ?_; simp only [Act.put, List.setIfInBounds_toArray, List.set_cons_zero, List.set_cons_succ])
            | (refine wpList_storeW rfl _ _ _ rfl wr.heap.size 38 _ V rfl rfl (na wr zCmd 38) (by rw [size48, hVs]) (by rw [hVs]; rfl) hV1 ?_; simp only [Act.put]; generalize hT4 : setRow _ _ _ = w4; obtain ⟨hx4, g4⟩ := fin_x (b0 _) (na wr zCmd 38) hT4; have HB4 := hide (bX (bA (b0 wr) (.cells zCmd 38)) hx4 (Nat.le_refl _)); clear hT4 hx4))
          go_ret2
          exact ⟨g0, ls, by rw [HT.out]; rfl, HM.out, bB HB.out HB4.out⟩
        · have e2 : ((k : Int) == 40) = false := beq_eq_false_iff_ne.2 (by omega)
          have e3 : decide ((k : Int) = 40) = false := decide_eq_false (by omega)
          have HK2 := hide (show k + 1 ≤ 40 ∧ ls.length ≤ k by omega)
          clear h40 hk40 HK
          go_wp2_with (first
            | (refine wpList_loadK rfl 38 _ rfl _ V rfl hcl _ rfl Tryz.underlying38 (by rw [size48, hVs]) ?_; simp only [Act.put, List.setIfInBounds_toArray, List.set_cons_zero, List.set_cons_succ])
            | (refine wpList_storeW rfl _ _ _ rfl wr.heap.size 38 _ V rfl rfl (na wr zCmd 38) (by rw [size48, hVs]) (by rw [hVs]; rfl) hV1 ?_; simp only [Act.put]; generalize hT4 : setRow _ _ _ = w4; obtain ⟨hx4, g4⟩ := fin_x (b0 _) (na wr zCmd 38) hT4; have HB4 := hide (bX (bA (b0 wr) (.cells zCmd 38)) hx4 (Nat.le_refl _)); clear hT4 hx4)
            | (refine wpList_loadW rfl _ _ rfl wr.heap.size 38 V rfl g4 _ rfl Tryz.underlying38 (by rw [size48, hVs]) ?_; simp only [Act.put, List.setIfInBounds_toArray, List.set_cons_zero, List.set_cons_succ]))
          refine (HFW.out w4 HB4.out).mono ?_
          rintro e w5 ⟨v, rfl, hk5, hb5⟩
          obtain ⟨A5, ac5, M5, mc5, rfl, hA5, hM5⟩ := hk5
          obtain ⟨Y, hY⟩ : ∃ Y, Y = d.cs A5 ac5 M5 mc5 := ⟨_, rfl⟩
          have hYs : Y.size = 19 := by rw [hY]; rfl
          have hY1 : Y.all (·.oneCell') = true := by rw [hY]; exact cmd_cells _ _ _ _ _
          rw [← hY]
          have HY := hide hY
          have HA5 := hide hA5
          have HM5 := hide hM5
          have g5 := kp hb5 g4
          have HB5 := hide (bB HB4.out hb5)
          clear hY hA5 hM5 hb5 g4 HFW hcl
          go_wp2_with (first
            | (refine wpList_storeW rfl _ _ _ rfl wr.heap.size 38 _ Y rfl rfl g5 (by rw [size48, hYs]) (by rw [hVs, hYs]) hY1 ?_; simp only [Act.put]; generalize hT6 : setRow _ _ _ = w6; obtain ⟨hx6, g6⟩ := fin_x (b0 _) g5 hT6; have HB6 := hide (bX HB5.out hx6 (Nat.le_refl _)); have HA6 := hide (HA5.out.exc hx6 g5 (by decide)); have HM6 := hide (HM5.out.exc hx6 g5 (by decide)); clear hT6 hx6)
            | (refine wpList_loadW rfl _ _ rfl wr.heap.size 38 Y rfl g6 _ rfl Tryz.underlying38 (by rw [size48, hYs]) ?_; simp only [Act.put, List.setIfInBounds_toArray, List.set_cons_zero, List.set_cons_succ]))
          have cl := con_long d A5 ac5 M5 mc5 w6
          rw [← HY.out] at cl
          refine cl.mono ?_
          rintro e w7 ⟨rfl, hb7⟩
          have HB7 := hide (bB HB6.out hb7)
          have HA7 := hide (HA6.out.below hb7)
          have HM7 := hide (HM6.out.below hb7)
          have g7 := kp hb7 g6
          clear cl hb7 g6 g5
          cases hlg : longB d
          · have HSH := hide (long_no hlg)
            clear hlg
            go_wp2_with (refine wpList_loadW rfl _ _ rfl wr.heap.size 38 Y rfl g7 _ rfl Tryz.underlying38 (by rw [size48, hYs]) ?_; simp only [Act.put, List.setIfInBounds_toArray, List.set_cons_zero, List.set_cons_succ])
            have c12 := con_Line d HC.out HSH.out A5 ac5 M5 mc5 w7 (HL.out _ (bB HB.out HB7.out)) (HDB.out _ (bB HB.out HB7.out)) HA7.out HM7.out
            rw [← HY.out] at c12
            refine c12.mono ?_
            rintro e w8 ⟨r, he, hr, hb8⟩
            have HB8 := hide (bB HB.out (bB HB7.out hb8))
            clear c12 hb8 g7
            cases r with
            | none =>
              have he : e = .returned (.tuple #[.string ⟨#[]⟩, .int .i64 410]) := he
              subst he
              clear hr
              go_wp2_with fail
              go_roundw
              case rel => exact ⟨k + 1, g0, ls, by go_num, by omega, by rw [HT.out], rfl, HM, hide ⟨HK2.out.1, Nat.le_succ_of_le HK2.out.2⟩, HB8⟩
              case measure => simp [intOf]; omega
            | some S =>
              have he : e = .returned (.tuple #[.string S, .int .i64 0]) := he
              subst he
              have HS := hide (line_good HC.out HSH.out hr)
              clear hr
              have hTs : T.size ≤ 64536 := by rw [HT.out]; exact HM.out.size
              have hSs : S.size ≤ 10000 := HS.out.1
              have hlk : ls.length ≤ 40 := by have := HK2.out; omega
              by_cases hfit : T.size + S.size + 1 ≤ 64536
              · have e4 : decide ((T.size : Int) + (S.size : Int) + 1 ≤ 64536) = true := decide_eq_true (by omega)
                have HF := hide hfit
                clear hfit
                go_wp2_with fail
                go_roundw
                case rel => exact ⟨k + 1, g0, ls ++ [S], by go_num, by omega, by rw [← List.cons_append, textOf_snoc, HT.out], by simp, hide (HM.out.add (by have := HK2.out; omega) HS.out (by rw [← HT.out]; exact HF.out)), hide ⟨HK2.out.1, by have := HK2.out.2; simp; omega⟩, HB8⟩
                case measure => simp [intOf]; omega
              · have e4 : decide ((T.size : Int) + (S.size : Int) + 1 ≤ 64536) = false := decide_eq_false (by omega)
                clear hfit
                go_wp2_with fail
                go_roundw
                case rel => exact ⟨k + 1, g0, ls, by go_num, by omega, by rw [HT.out], rfl, HM, hide ⟨HK2.out.1, Nat.le_succ_of_le HK2.out.2⟩, HB8⟩
                case measure => simp [intOf]; omega
          · clear hlg
            go_wp2_with fail
            go_roundw
            case rel => exact ⟨k + 1, g0, ls, by go_num, by omega, by rw [HT.out], rfl, HM, hide ⟨HK2.out.1, Nat.le_succ_of_le HK2.out.2⟩, hide (bB HB.out HB7.out)⟩
            case measure => simp [intOf]; omega
      · have e1 : decide ((k : Int) < (n : Int)) = false := decide_eq_false (by omega)
        go_wp2_with fail
        go_ret2
        exact ⟨g0, ls, by rw [HT.out]; rfl, HM.out, HB.out⟩
end Go.Proofs.YtbiedfkmmcaplaaGreatDoor
