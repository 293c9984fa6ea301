/- The console at this program: the report's line of a reply that has no rows. The console at this program: the report's line of what was scanned. The console at this program: the report's line of buckets. The document's answer for the console at this program: a number's word. The document's answer for the console at this program: rows of numbers. The document's answer for the console at this program: the numbers of an answer. The document's answer for the console at this program: the report's line, without buckets. The document's answer for the console at this program: the report's line of a scan. The document's answer for the console at this program: the report's line of buckets. The report's line of a reply, by the console and by the document: the same. -/
import Derived.Test.YtlnonecibpjcoaaGreatDoorRb
set_option linter.unusedSimpArgs false
set_option linter.unusedVariables false
set_option linter.unusedSectionVars false
namespace Go.Proofs.YtlnonecibpjcoaaGreatDoor
open Go.RowKit
attribute [local go_sem] Oper.semAt_some

theorem okOwn (w : World) (B : Nat) (hB : B ≤ w.heap.size) : OwnV 9 B (w.alloc (.cells #[.string ⟨#[111, 107]⟩] 9)) (.slice (some ⟨w.heap.size, 0, none⟩) 1 1) (strV [sOk]) := by
  have := OwnV.built (T := 9) (B := B) w (strV [sOk]) hB (by simp [strV])
  simpa [strV, sOk] using this

/-- the Op asks nothing whose answer is told -/
def noAsk (o : OpV) : Prop := o.kind ≠ 5 ∨ o.qk < 1 ∨ 8 < o.qk

set_option maxRecDepth 100000 in
set_option maxHeartbeats 4000000 in
theorem con_Tell_ok (o : OpV) (ho : noAsk o) (a : Ans) (pA : Option Addr) (bn bc : Nat) (kA : Option Addr) (kn kc : Nat) (w : World) :
    Calls Tryz.prog 8 #[.agg o.cs, .agg (repCs 0 a pA bn bc kA kn kc)] w fun e w' => e = .returned (.string (joinB sBlank [sOk])) ∧ Below w.heap.size w w' := by
  obtain ⟨o0, o1, o2, o3, o4, o5, o6, o7, o8, o9, o10, o11, o12, o13, o14, o15, o16, o17⟩ := o
  obtain ⟨x0, x1, x2, x3, x4, x5, x6, x7, x8⟩ := a
  simp only [OpV.cs, repCs, noAsk] at *
  have cJ : ∀ w0 : World, ∀ h : Nat, h = w0.heap.size → ∀ w1 : World, Below (w0.alloc (.cells #[.string ⟨#[111, 107]⟩] 9)).heap.size (w0.alloc (.cells #[.string ⟨#[111, 107]⟩] 9)) w1 → Calls Tryz.prog 22 #[.string sBlank, .slice (some ⟨h, 0, none⟩) 1 1] w1 fun e w' => e = .returned (.string (joinB sBlank [sOk])) ∧ Below w1.heap.size w1 w' := by
    rintro w0 h rfl w1 hb
    exact con_joinedO sBlank (ss := [sOk]) ((okOwn w0 0 (by omega)).lift hb) (by decide) (by decide) (by decide)
  have hc : ¬ (o0 = 5) ∨ (o0 = 5 ∧ o9 < 1) ∨ (o0 = 5 ∧ ¬ o9 < 1 ∧ 8 < o9) := by omega
  clear ho
  rcases hc with h1 | ⟨rfl, h2⟩ | ⟨rfl, h2, h3⟩
  all_goals
    go_enter Tryz.func8, Tryz.ntmps8
    go_wp2_with fail
    refine (cJ _ (w.heap.size + 1 + 1) (by simp) _ (bA (b0 _) _)).mono ?_
    rintro e w2 ⟨rfl, hb2⟩
    have hB : Below w.heap.size w w2 := bB (bA (bA (bA (bA (b0 w) _) _) _) _) hb2
    go_wp2
    go_ret
    exact ⟨rfl, hB⟩

set_option maxRecDepth 100000 in
set_option maxHeartbeats 4000000 in
theorem con_Tell_one (o : OpV) (hk : o.kind = 5) (hq : 1 ≤ o.qk ∧ o.qk ≤ 6) (a : Ans) (ha : ∀ x ∈ a.l, i64In x) (pA : Option Addr) (bn bc : Nat) (kA : Option Addr) (kn kc : Nat) (w : World) (hL : Laid w) :
    Calls Tryz.prog 8 #[.agg o.cs, .agg (repCs 0 a pA bn bc kA kn kc)] w fun e w' => e = .returned (.string (joinB sBlank (sOk :: (oneN o.qk a).map itoaB))) ∧ Below w.heap.size w w' := by
  obtain ⟨o0, o1, o2, o3, o4, o5, o6, o7, o8, o9, o10, o11, o12, o13, o14, o15, o16, o17⟩ := o
  have hone := fun W hW => con_one o9 a ha W hW
  obtain ⟨x0, x1, x2, x3, x4, x5, x6, x7, x8⟩ := a
  have hmem : ∀ x ∈ oneN o9 ⟨x0, x1, x2, x3, x4, x5, x6, x7, x8⟩, i64In x := by
    intro x hx
    refine ha x ?_
    unfold oneN at hx
    simp only [Ans.l] at *
    split at hx
    · simp at hx; subst hx; simp
    · split at hx
      · simp at hx
        rcases hx with rfl | rfl | rfl | rfl | rfl <;> simp
      · simp at hx
        rcases hx with rfl | rfl <;> simp
  have hlen : (oneN o9 ⟨x0, x1, x2, x3, x4, x5, x6, x7, x8⟩).length ≤ 5 := by
    unfold oneN
    split
    · simp
    · split <;> simp
  simp only [OpV.cs, repCs, Ans.cs] at *
  subst hk
  obtain ⟨L, hLd⟩ : ∃ L, L = oneN o9 ⟨x0, x1, x2, x3, x4, x5, x6, x7, x8⟩ := ⟨_, rfl⟩
  rw [← hLd] at hone hmem hlen ⊢
  have HM := hide hmem
  have HLn := hide hlen
  clear ha hLd hmem hlen
  obtain ⟨hq1, hq2⟩ := hq
  have e1 : decide (o9 < 1) = false := decide_eq_false (by omega)
  have e2 : decide (o9 > 8) = false := decide_eq_false (by omega)
  have e3 : (o9 = 7) = False := by simp; omega
  have e4 : (o9 = 8) = False := by simp; omega
  go_enter Tryz.func8, Tryz.ntmps8
  go_wp2_with fail
  refine (hone _ (hL.below (bA (bA (bA (bA (b0 w) _) _) _) _))).mono ?_
  rintro e w2 ⟨A, rfl, hb2, hR⟩
  have HR := hide hR
  clear hR hone
  have hB : Below w.heap.size w w2 := bB (bA (bA (bA (bA (b0 w) _) _) _) _) hb2
  have hO : OwnV 9 w.heap.size w2 (.slice (some ⟨w.heap.size + 1 + 1, 0, none⟩) 1 1) (strV [sOk]) := by
    have h1 := okOwn ((w.alloc (.cells #[.int .i64 5, .int .i64 o1, .string o2, .int .i64 o3, .int .i64 o4, .int .i64 o5, .slice o6 o7 o8, .int .i64 o9, .string o10, .int .i64 o11, .int .i64 o12, .int .i64 o13, .int .i64 o14, .string o15, .int .i64 o16, .int .u64 o17] 29)).alloc (.cells #[.int .i64 0, .int .i64 x0, .int .i64 x1, .int .i64 x2, .int .i64 x3, .int .i64 x4, .int .i64 x5, .int .i64 x6, .int .i64 x7, .int .i64 x8, .slice pA bn bc, .slice kA kn kc] 42)) w.heap.size (by simp; omega)
    have h2 := (h1.lift (bA (b0 _) _)).lift hb2
    simpa using h2
  have HO := hide hO
  clear hO hb2
  generalize hw2 : w2 = W2 at *
  clear hw2
  have eL : (L.map itoaB).length = L.length := by simp
  have HEL := hide eL
  clear eL
  go_wp2_with (refine wpList_pushV rfl _ _ _ rfl 16 Tryz.underlying66 str_info rfl (by decide) w.heap.size _ (strV [sOk]) (strV (L.map itoaB)) A L.length rfl (by rw [strV_len, HEL.out]; rfl) HO.out HR.out.inV (strV_one _) (by have := HLn.out; simp only [strV_len, HEL.out, List.length_cons, List.length_nil]; omega) hB.size ?_; intro v' w3 hO3 hlow hsz)
  have hB3 : Below w.heap.size w w3 := hlow w hB
  have hbs : bytesOf (sOk :: L.map itoaB) ≤ 200 := by
    have h5 := HLn.out
    have hm := HM.out
    have : ∀ l : List Int, (∀ x ∈ l, i64In x) → bytesOf (l.map itoaB) ≤ l.length * 20 := by
      intro l
      induction l with
      | nil => intro _; simp [bytesOf]
      | cons x l ih =>
        intro h
        have := ih fun y hy => h y (by simp [hy])
        have h2 := itoaB_len x (h x (by simp))
        simp only [bytesOf, List.map_cons, List.sum_cons, List.length_cons] at *
        omega
    have h6 := this L hm
    simp only [bytesOf, List.map_cons, List.sum_cons] at *
    have : sOk.size = 2 := rfl
    omega
  have HBS := hide hbs
  clear hbs
  refine (con_joinedO sBlank (ss := sOk :: L.map itoaB) hO3 (by have := HBS.out; omega) (by have := HEL.out; have := HLn.out; simp; omega) (by decide)).mono ?_
  rintro e w4 ⟨rfl, hb4⟩
  have hB4 := bB hB3 hb4
  go_wp2
  go_ret
  exact ⟨rfl, hB4⟩
end Go.Proofs.YtlnonecibpjcoaaGreatDoor

namespace Go.Proofs.YtlnonecibpjcoaaGreatDoor
open Go.RowKit
attribute [local go_sem] Oper.semAt_some

/-- rows of k cells each that lie somewhere -/
def InR (k : Nat) (w : World) (X : Option Addr) (rows : List (List Value)) : Prop :=
  0 < rows.length → ∃ ad, X = some ad ∧ ad.block < w.heap.size ∧ ∀ i (hi : i < rows.length) j v, (rows[i])[j]? = some v → w.cell? (ad.add (i * k + j)) = some v
theorem InR.below {k : Nat} {w w' : World} {X : Option Addr} {rows : List (List Value)} (h : InR k w X rows) (hb : Below w.heap.size w w') : InR k w' X rows := fun h0 => by
  obtain ⟨ad, e, h1, h2⟩ := h h0
  have hc : ∀ j, w'.cell? (ad.add j) = w.cell? (ad.add j) := fun j => hb.cell (p := ad.add j) (by rw [show (ad.add j).block = ad.block by unfold Addr.add; split <;> rfl]; exact h1)
  exact ⟨ad, e, Nat.lt_of_lt_of_le h1 hb.size, fun i hi j v hv => by rw [hc]; exact h2 i hi j v hv⟩

theorem bytesOf_itoa : ∀ l : List Int, (∀ x ∈ l, i64In x) → bytesOf (l.map itoaB) ≤ l.length * 20 := by
  intro l
  induction l with
  | nil => intro _; simp [bytesOf]
  | cons x l ih =>
    intro h
    have := ih fun y hy => h y (by simp [hy])
    have h2 := itoaB_len x (h x (by simp))
    simp only [bytesOf, List.map_cons, List.sum_cons, List.length_cons] at *
    omega

structure Bk where
  t : Int
  v : Int
  e : Int
def Bk.l (b : Bk) : List Int := [b.t, b.v, b.e]
def Bk.cs (b : Bk) : List Value := intV b.l

theorem inR3 {w w0 : World} {ad : Addr} {bs : List Bk} (hb : Below w.heap.size w w0) (h : InR 3 w (some ad) (bs.map Bk.cs)) (k : Nat) (hk : k < bs.length) :
    w0.cell? (ad.add (k * 3)) = some (.int .i64 bs[k].t) ∧ w0.cell? { block := (ad.add (k * 3)).block, off := (ad.add (k * 3)).off + 1 } = some (.int .i64 bs[k].v) ∧ w0.cell? { block := (ad.add (k * 3)).block, off := (ad.add (k * 3)).off + 2 } = some (.int .i64 bs[k].e) := by
  obtain ⟨ad', e, -, h2⟩ := (h.below hb) (by simpa using (by omega : 0 < bs.length))
  obtain rfl : ad = ad' := Option.some.inj e
  have q := h2 k (by simpa using hk)
  simp only [List.getElem_map] at q
  have e1 : (ad.add (k * 3)).add 1 = ad.add (k * 3 + 1) := Go.Deep.add_add _ _ _
  have e2 : (ad.add (k * 3)).add 2 = ad.add (k * 3 + 2) := Go.Deep.add_add _ _ _
  have q0 := q 0 (.int .i64 bs[k].t) rfl
  have q1 := q 1 (.int .i64 bs[k].v) rfl
  have q2 := q 2 (.int .i64 bs[k].e) rfl
  rw [← e1] at q1
  rw [← e2] at q2
  exact ⟨q0, q1, q2⟩

def scanW (bs : List Bk) : List ByteArray := sOk :: (bs.flatMap Bk.l).map itoaB

theorem scanW_take {bs : List Bk} {k : Nat} (hk : k < bs.length) : scanW (bs.take (k + 1)) = scanW (bs.take k) ++ (bs[k].l).map itoaB := by
  rw [List.take_succ_eq_append_getElem hk]
  simp only [scanW, List.flatMap_append, List.map_append, List.cons_append, List.flatMap_cons, List.flatMap_nil, List.append_nil]
theorem scanW_len (bs : List Bk) : (scanW bs).length = 1 + 3 * bs.length := by
  induction bs with
  | nil => rfl
  | cons b bs ih => simp [scanW, Bk.l] at *; omega

set_option maxRecDepth 100000 in
set_option maxHeartbeats 8000000 in
theorem con_Tell_scan (o : OpV) (hk : o.kind = 5) (hq : o.qk = 7) (a : Ans) (X : Option Addr) (bc : Nat) (bs : List Bk) (hbs : bs.length ≤ 1000) (hbi : ∀ b ∈ bs, ∀ x ∈ b.l, i64In x) (kA : Option Addr) (kn kc : Nat) (w : World) (hL : Laid w) (hX : InR 3 w X (bs.map Bk.cs)) :
    Calls Tryz.prog 8 #[.agg o.cs, .agg (repCs 0 a X bs.length bc kA kn kc)] w fun e w' => e = .returned (.string (joinB sBlank (scanW bs))) ∧ Below w.heap.size w w' := by
  obtain ⟨o0, o1, o2, o3, o4, o5, o6, o7, o8, o9, o10, o11, o12, o13, o14, o15, o16, o17⟩ := o
  obtain ⟨x0, x1, x2, x3, x4, x5, x6, x7, x8⟩ := a
  simp only [OpV.cs, repCs] at *
  subst hk hq
  have HX := hide hX
  have HBI := hide hbi
  clear hX hbi
  have hO0 := okOwn ((w.alloc (.cells #[.int .i64 5, .int .i64 o1, .string o2, .int .i64 o3, .int .i64 o4, .int .i64 o5, .slice o6 o7 o8, .int .i64 7, .string o10, .int .i64 o11, .int .i64 o12, .int .i64 o13, .int .i64 o14, .string o15, .int .i64 o16, .int .u64 o17] 29)).alloc (.cells #[.int .i64 0, .int .i64 x0, .int .i64 x1, .int .i64 x2, .int .i64 x3, .int .i64 x4, .int .i64 x5, .int .i64 x6, .int .i64 x7, .int .i64 x8, .slice X bs.length bc, .slice kA kn kc] 42)) w.heap.size (by simp; omega)
  have HO0 := hide (hO0.lift (bA (b0 _) (.cells #[.int .i64 7, .string o10, .int .i64 o11, .int .i64 o12, .int .i64 o13, .int .i64 o14] 26)))
  clear hO0
  go_enter Tryz.func8, Tryz.ntmps8
  go_wp2_with fail
  go_loopw [53, 5, 8] (fun vi vo _ wr => ∃ k : Nat, vi = .int .i64 k ∧ k ≤ bs.length ∧ Hid (OwnV 9 w.heap.size wr vo (strV (scanW (bs.take k)))) ∧ Below w.heap.size w wr) (fun vi _ _ _ => bs.length - (intOf vi).toNat)
  case atStart => exact ⟨0, rfl, by omega, hide (by simpa [scanW] using HO0.out), bA (bA (bA (bA (b0 w) _) _) _) _⟩
  case round =>
    obtain ⟨k, rfl, hk, HO, hb⟩ := hrel
    by_cases hlt : k < bs.length
    · obtain ⟨ad, rfl, -, -⟩ := HX.out (by simpa using (by omega : 0 < bs.length))
      obtain ⟨q1, q2, q3⟩ := inR3 hb HX.out k hlt
      have HI := hide (HBI.out bs[k] (List.getElem_mem hlt))
      have HT := hide (scanW_take hlt)
      obtain ⟨b, hbk⟩ : ∃ b, b = bs[k] := ⟨_, rfl⟩
      rw [← hbk] at q1 q2 q3 HI HT
      clear hbk
      obtain ⟨bt, bv, be⟩ := b
      go_wp2_with fail
      refine (con_nums [bt, bv, be] (by simp) (fun x hx => HI.out x hx) _ 3 (wr.heap.size + 1) _ rfl rfl (by simp) (hL.below (bA hb _))).mono ?_
      rintro e w2 ⟨A, rfl, hb2, hR⟩
      have HR := hide hR
      clear hR
      have hB : Below w.heap.size w w2 := bB (bA (bA hb _) _) hb2
      have HO2 := hide (((HO.out.lift (bA (b0 _) _)).lift (bA (b0 _) _)).lift hb2)
      have HLn := hide (scanW_len (bs.take k))
      clear hb2
      generalize hw2 : w2 = W2 at *
      clear hw2
      go_wp2_with (refine wpList_pushV rfl _ _ _ rfl 16 Tryz.underlying66 str_info rfl (by decide) w.heap.size _ (strV (scanW (bs.take k))) (strV [itoaB bt, itoaB bv, itoaB be]) A 3 rfl rfl HO2.out HR.out.inV (strV_one _) (by simp only [strV_len, HLn.out, List.length_cons, List.length_nil, List.length_take]; omega) hB.size ?_; intro v' w3 hO3 hlow hsz)
      have HO3 := hide hO3
      have hB3 : Below w.heap.size w w3 := hlow w hB
      clear hO3 hlow
      go_wp2
      go_roundw
      case rel =>
        refine ⟨k + 1, by go_num, by omega, hide ?_, hB3⟩
        rw [HT.out]
        have := HO3.out
        simpa [strV, Bk.l] using this
      case measure => simp [intOf]; omega
    · obtain rfl : k = bs.length := by omega
      have hO := HO.out
      rw [List.take_length] at hO
      have HO1 := hide hO
      clear hO
      have HBS : Hid (bytesOf (scanW bs) ≤ 1000000) := hide (by
        have : ∀ l : List Int, (∀ x ∈ l, i64In x) → bytesOf (l.map itoaB) ≤ l.length * 20 := bytesOf_itoa
        have h1 := this (bs.flatMap Bk.l) (fun x hx => by
          obtain ⟨b, h1, h2⟩ := List.mem_flatMap.1 hx
          exact HBI.out b h1 x h2)
        have h2 := scanW_len bs
        simp only [scanW, List.length_cons, List.length_map] at h2
        simp only [scanW, bytesOf, List.map_cons, List.sum_cons] at *
        have : sOk.size = 2 := rfl
        omega)
      have HSL := hide (scanW_len bs)
      go_wp2_with fail
      refine (con_joinedO sBlank HO1.out (by have := HBS.out; omega) (by have := HSL.out; omega) (by decide)).mono ?_
      rintro e w4 ⟨rfl, hb4⟩
      have hB4 := bB hb hb4
      go_wp2
      go_ret
      exact ⟨rfl, hB4⟩
end Go.Proofs.YtlnonecibpjcoaaGreatDoor

namespace Go.Proofs.YtlnonecibpjcoaaGreatDoor
open Go.RowKit
attribute [local go_sem] Oper.semAt_some

theorem own_other {T t : TypeId} {B : Nat} {w : World} {v : Value} {l : List Value} (h : OwnV T B w v l) {k : Nat} {cs : Array Value} (hk : w.heap[k]? = some (.cells cs t (0, 0))) (ht : t ≠ T) : v.ownBlock ≠ some k := by
  rintro e
  rcases h.2 with ⟨rfl, _⟩ | ⟨g, cap, cur, rfl, _, hg, _⟩
  · cases e
  · have : g = k := Option.some.inj e
    subst this
    rw [hg] at hk
    injection hk with hk
    injection hk with _ hk _
    exact ht hk.symm

set_option maxRecDepth 100000 in
/-- append onto a row of the call's own; what else lies there stays -/
theorem wpList_pushW {T : TypeId} {ops : Array Oper} {rest : List Oper} {o : Oper} {a : Act} {w : World} {Q : Exit → Act → World → Prop} (hgd : o.guard = none) (s x : Operand) (ST : TypeId)
    (ho : o.op = .call { callee := .builtin .append, args := #[s, x], argTypes := #[ST, ST] }) (bytes : Nat) {zv : Value} (hST : Tryz.prog.underlying ST = some (.slice T)) (info : (Tryz.prog.info? T).map (fun i => (i.zero, i.size, i.bytes)) = some (some zv, 1, bytes)) (hzv : zv.cells.size = 1) (hby : bytes ≤ 16) (B : Nat) (v : Value) (l m : List Value) (A : Option Addr) (c : Nat)
    (hs : a.eval s = v) (hx : a.eval x = .slice A m.length c) (hown : OwnV T B w v l) (hr : InV w A m) (h1m : ∀ v ∈ m, v.oneCell' = true) (hlen : l.length + m.length ≤ 1048576) (hB : B ≤ w.heap.size)
    (h : ∀ v' w', OwnV T B w' v' (l ++ m) → (∀ w0 : World, Below B w0 w → Below B w0 w') → w.heap.size ≤ w'.heap.size → (∀ (k : Nat) (cs : Array Value) (t : TypeId), w.heap[k]? = some (.cells cs t (0, 0)) → t ≠ T → w'.heap[k]? = some (.cells cs t (0, 0))) → wpList Tryz.prog ops Q rest (a.put o.dst v') w') : wpList Tryz.prog ops Q (o :: rest) a w := by
  obtain ⟨v', w', hrun, h2, h3, h5⟩ := pushV_run w ST o.type bytes hST info hzv hby hown hr h1m hlen hB
  refine wpList_plain hgd fun _ hK => ?_
  unfold Oper.wp execOp
  simp only [ho, resolve, invoke, builtin, Sem.run_bind, Sem.run_pure, Result.andThen_ok, List.map_toArray, List.map_cons, List.map_nil, hs, hx]
  rw [hrun]
  exact hK _ _ (h v' w' h2 (fun w0 hb => hb.grown h3 hB hown.lt) h3.size fun k cs t hk ht => by
    rw [h3.block k (Array.getElem?_eq_some_iff.1 hk).1 (own_other hown hk ht).symm]
    exact hk)

def Ans.rs (a : Ans) : List Value := intV a.l
theorem inR9 {w w0 : World} {ad : Addr} {bk : List Ans} (hb : Below w.heap.size w w0) (h : InR 9 w (some ad) (bk.map Ans.rs)) (k : Nat) (hk : k < bk.length) :
    w0.cell? (ad.add (k * 9)) = some (.int .i64 bk[k].err) ∧ w0.cell? { block := (ad.add (k * 9)).block, off := (ad.add (k * 9)).off + 1 } = some (.int .i64 bk[k].cnt) ∧ w0.cell? { block := (ad.add (k * 9)).block, off := (ad.add (k * 9)).off + 2 } = some (.int .i64 bk[k].lo) ∧ w0.cell? { block := (ad.add (k * 9)).block, off := (ad.add (k * 9)).off + 3 } = some (.int .i64 bk[k].hi) ∧ w0.cell? { block := (ad.add (k * 9)).block, off := (ad.add (k * 9)).off + 4 } = some (.int .i64 bk[k].mc) ∧ w0.cell? { block := (ad.add (k * 9)).block, off := (ad.add (k * 9)).off + 5 } = some (.int .i64 bk[k].lw) ∧ w0.cell? { block := (ad.add (k * 9)).block, off := (ad.add (k * 9)).off + 6 } = some (.int .i64 bk[k].lr) ∧ w0.cell? { block := (ad.add (k * 9)).block, off := (ad.add (k * 9)).off + 7 } = some (.int .i64 bk[k].hw) ∧ w0.cell? { block := (ad.add (k * 9)).block, off := (ad.add (k * 9)).off + 8 } = some (.int .i64 bk[k].hr) := by
  obtain ⟨ad', e, -, h2⟩ := (h.below hb) (by simpa using (by omega : 0 < bk.length))
  obtain rfl : ad = ad' := Option.some.inj e
  have q := h2 k (by simpa using hk)
  simp only [List.getElem_map] at q
  have q0 := q 0 (.int .i64 bk[k].err) rfl
  have q1 := q 1 (.int .i64 bk[k].cnt) rfl
  rw [← (Go.Deep.add_add ad (k * 9) 1 : (ad.add (k * 9)).add 1 = ad.add (k * 9 + 1))] at q1
  have q2 := q 2 (.int .i64 bk[k].lo) rfl
  rw [← (Go.Deep.add_add ad (k * 9) 2 : (ad.add (k * 9)).add 2 = ad.add (k * 9 + 2))] at q2
  have q3 := q 3 (.int .i64 bk[k].hi) rfl
  rw [← (Go.Deep.add_add ad (k * 9) 3 : (ad.add (k * 9)).add 3 = ad.add (k * 9 + 3))] at q3
  have q4 := q 4 (.int .i64 bk[k].mc) rfl
  rw [← (Go.Deep.add_add ad (k * 9) 4 : (ad.add (k * 9)).add 4 = ad.add (k * 9 + 4))] at q4
  have q5 := q 5 (.int .i64 bk[k].lw) rfl
  rw [← (Go.Deep.add_add ad (k * 9) 5 : (ad.add (k * 9)).add 5 = ad.add (k * 9 + 5))] at q5
  have q6 := q 6 (.int .i64 bk[k].lr) rfl
  rw [← (Go.Deep.add_add ad (k * 9) 6 : (ad.add (k * 9)).add 6 = ad.add (k * 9 + 6))] at q6
  have q7 := q 7 (.int .i64 bk[k].hw) rfl
  rw [← (Go.Deep.add_add ad (k * 9) 7 : (ad.add (k * 9)).add 7 = ad.add (k * 9 + 7))] at q7
  have q8 := q 8 (.int .i64 bk[k].hr) rfl
  rw [← (Go.Deep.add_add ad (k * 9) 8 : (ad.add (k * 9)).add 8 = ad.add (k * 9 + 8))] at q8
  exact ⟨q0, q1, q2, q3, q4, q5, q6, q7, q8⟩

/-- a bucket's word -/
def bkW (what : Int) (a : Ans) : ByteArray := if a.err = 0 then joinB sSlash ((oneN what a).map itoaB) else ⟨#[101]⟩ ++ joinB ⟨#[]⟩ [itoaB a.err]
def bksW (what : Int) (bk : List Ans) : List ByteArray := sOk :: bk.map (bkW what)
theorem bksW_take {what : Int} {bk : List Ans} {k : Nat} (hk : k < bk.length) : bksW what (bk.take (k + 1)) = bksW what (bk.take k) ++ [bkW what bk[k]] := by
  rw [List.take_succ_eq_append_getElem hk]
  simp only [bksW, List.map_append, List.cons_append, List.map_cons, List.map_nil]
theorem bksW_len (what : Int) (bk : List Ans) : (bksW what bk).length = 1 + bk.length := by simp [bksW]; omega
theorem joinB_size (sep : ByteArray) (ss : List ByteArray) : (joinB sep ss).size ≤ bytesOf ss + ss.length * sep.size := by
  have := join_len sep.data.toList (ss.map (·.data.toList))
  have e1 : ((ss.map (·.data.toList)).map List.length).sum = bytesOf ss := by
    unfold bytesOf
    rw [List.map_map]
    congr 1
  rw [e1, List.length_map] at this
  exact this
theorem oneN_len (what : Int) (a : Ans) : (oneN what a).length ≤ 5 := by
  unfold oneN
  split
  · simp
  · split <;> simp
theorem oneN_mem {what : Int} {a : Ans} (ha : ∀ x ∈ a.l, i64In x) : ∀ x ∈ oneN what a, i64In x := by
  intro x hx
  refine ha x ?_
  obtain ⟨x0, x1, x2, x3, x4, x5, x6, x7, x8⟩ := a
  unfold oneN at hx
  simp only [Ans.l] at *
  split at hx
  · simp at hx; subst hx; simp
  · split at hx
    · simp at hx
      rcases hx with rfl | rfl | rfl | rfl | rfl <;> simp
    · simp at hx
      rcases hx with rfl | rfl <;> simp
theorem bkW_size (what : Int) (a : Ans) (ha : ∀ x ∈ a.l, i64In x) : (bkW what a).size ≤ 200 := by
  unfold bkW
  split
  · have h1 := joinB_size sSlash ((oneN what a).map itoaB)
    have h2 := bytesOf_itoa _ (oneN_mem (what := what) ha)
    have h3 := oneN_len what a
    have h4 : sSlash.size = 1 := rfl
    rw [h4, List.length_map] at h1
    omega
  · have h1 := joinB_size ⟨#[]⟩ [itoaB a.err]
    have h2 := itoaB_len a.err (ha _ (by simp [Ans.l]))
    have h3 : (⟨#[101]⟩ ++ joinB ⟨#[]⟩ [itoaB a.err] : ByteArray).size = 1 + (joinB ⟨#[]⟩ [itoaB a.err]).size := by rw [ByteArray.size_append]; rfl
    simp only [bytesOf, List.map_cons, List.map_nil, List.sum_cons, List.sum_nil, List.length_cons, List.length_nil] at h1
    have h4 : (ByteArray.mk #[]).size = 0 := rfl
    omega
theorem bksW_bytes (what : Int) (bk : List Ans) (ha : ∀ a ∈ bk, ∀ x ∈ a.l, i64In x) : bytesOf (bksW what bk) ≤ 2 + 200 * bk.length := by
  have : sOk.size = 2 := rfl
  induction bk with
  | nil => simp [bksW, bytesOf, this]
  | cons a bk ih =>
    have h1 := ih fun b hb => ha b (by simp [hb])
    have h2 := bkW_size what a (ha a (by simp))
    simp only [bksW, bytesOf, List.map_cons, List.sum_cons, List.length_cons] at *
    omega

set_option maxRecDepth 100000 in
set_option maxHeartbeats 8000000 in
theorem con_Tell_buckets (o : OpV) (hk : o.kind = 5) (hq : o.qk = 8) (a : Ans) (X : Option Addr) (bn bc kc : Nat) (bk : List Ans) (has : bk.length ≤ 1000) (hai : ∀ b ∈ bk, ∀ x ∈ b.l, i64In x) (kA : Option Addr) (w : World) (hL : Laid w) (hX : InR 9 w X (bk.map Ans.rs)) :
    Calls Tryz.prog 8 #[.agg o.cs, .agg (repCs 0 a kA bn bc X bk.length kc)] w fun e w' => e = .returned (.string (joinB sBlank (bksW o.qw bk))) ∧ Below w.heap.size w w' := by
  obtain ⟨o0, o1, o2, o3, o4, o5, o6, o7, o8, o9, o10, o11, o12, o13, o14, o15, o16, o17⟩ := o
  obtain ⟨x0, x1, x2, x3, x4, x5, x6, x7, x8⟩ := a
  simp only [OpV.cs, repCs] at *
  subst hk hq
  have HX := hide hX
  have HAI := hide hai
  clear hX hai
  have hO0 := okOwn ((w.alloc (.cells #[.int .i64 5, .int .i64 o1, .string o2, .int .i64 o3, .int .i64 o4, .int .i64 o5, .slice o6 o7 o8, .int .i64 8, .string o10, .int .i64 o11, .int .i64 o12, .int .i64 o13, .int .i64 o14, .string o15, .int .i64 o16, .int .u64 o17] 29)).alloc (.cells #[.int .i64 0, .int .i64 x0, .int .i64 x1, .int .i64 x2, .int .i64 x3, .int .i64 x4, .int .i64 x5, .int .i64 x6, .int .i64 x7, .int .i64 x8, .slice kA bn bc, .slice X bk.length kc] 42)) w.heap.size (by simp; omega)
  have HO0 := hide (hO0.lift (bA (b0 _) (.cells #[.int .i64 8, .string o10, .int .i64 o11, .int .i64 o12, .int .i64 o13, .int .i64 o14] 26)))
  clear hO0
  have hT : ((((w.alloc (.cells #[.int .i64 5, .int .i64 o1, .string o2, .int .i64 o3, .int .i64 o4, .int .i64 o5, .slice o6 o7 o8, .int .i64 8, .string o10, .int .i64 o11, .int .i64 o12, .int .i64 o13, .int .i64 o14, .string o15, .int .i64 o16, .int .u64 o17] 29)).alloc (.cells #[.int .i64 0, .int .i64 x0, .int .i64 x1, .int .i64 x2, .int .i64 x3, .int .i64 x4, .int .i64 x5, .int .i64 x6, .int .i64 x7, .int .i64 x8, .slice kA bn bc, .slice X bk.length kc] 42)).alloc (.cells #[.string ⟨#[111, 107]⟩] 9)).alloc (.cells #[.int .i64 8, .string o10, .int .i64 o11, .int .i64 o12, .int .i64 o13, .int .i64 o14] 26)).heap[w.heap.size + 1 + 1 + 1]? = some (.cells #[.int .i64 8, .string o10, .int .i64 o11, .int .i64 o12, .int .i64 o13, .int .i64 o14] 26 (0, 0)) := by
    have := na (((w.alloc (.cells #[.int .i64 5, .int .i64 o1, .string o2, .int .i64 o3, .int .i64 o4, .int .i64 o5, .slice o6 o7 o8, .int .i64 8, .string o10, .int .i64 o11, .int .i64 o12, .int .i64 o13, .int .i64 o14, .string o15, .int .i64 o16, .int .u64 o17] 29)).alloc (.cells #[.int .i64 0, .int .i64 x0, .int .i64 x1, .int .i64 x2, .int .i64 x3, .int .i64 x4, .int .i64 x5, .int .i64 x6, .int .i64 x7, .int .i64 x8, .slice kA bn bc, .slice X bk.length kc] 42)).alloc (.cells #[.string ⟨#[111, 107]⟩] 9)) #[.int .i64 8, .string o10, .int .i64 o11, .int .i64 o12, .int .i64 o13, .int .i64 o14] 26
    simpa using this
  have HT0 := hide hT
  clear hT
  go_enter Tryz.func8, Tryz.ntmps8
  go_wp2_with fail
  go_loopw [75, 5, 10, 11] (fun vi vo _ _ wr => ∃ k : Nat, vi = .int .i64 k ∧ k ≤ bk.length ∧ Hid (OwnV 9 w.heap.size wr vo (strV (bksW o13 (bk.take k)))) ∧ wr.heap[w.heap.size + 1 + 1 + 1]? = some (.cells #[.int .i64 8, .string o10, .int .i64 o11, .int .i64 o12, .int .i64 o13, .int .i64 o14] 26 (0, 0)) ∧ Below w.heap.size w wr) (fun vi _ _ _ _ => bk.length - (intOf vi).toNat)
  case atStart => exact ⟨0, rfl, by omega, hide (by simpa [bksW] using HO0.out), HT0.out, bA (bA (bA (bA (b0 w) _) _) _) _⟩
  case round =>
    obtain ⟨k, rfl, hk, HO, hg6, hb⟩ := hrel
    by_cases hlt : k < bk.length
    · obtain ⟨ad, rfl, -, -⟩ := HX.out (by simpa using (by omega : 0 < bk.length))
      obtain ⟨q0, q1, q2, q3, q4, q5, q6, q7, q8⟩ := inR9 hb HX.out k hlt
      have HI := hide (HAI.out bk[k] (List.getElem_mem hlt))
      have HT := hide (bksW_take (what := o13) hlt)
      obtain ⟨b, hbk⟩ : ∃ b, b = bk[k] := ⟨_, rfl⟩
      rw [← hbk] at q0 q1 q2 q3 q4 q5 q6 q7 q8 HI HT
      clear hbk
      have hone := fun W hW => con_one o13 b HI.out W hW
      have HBW := hide (show bkW o13 b = if b.err = 0 then joinB sSlash ((oneN o13 b).map itoaB) else ⟨#[101]⟩ ++ joinB ⟨#[]⟩ [itoaB b.err] from rfl)
      have HLen := hide (oneN_len o13 b)
      have HMem := hide (oneN_mem (what := o13) HI.out)
      have HEr := hide (HI.out b.err (by simp [Ans.l]))
      obtain ⟨L, hLd⟩ : ∃ L, L = oneN o13 b := ⟨_, rfl⟩
      obtain ⟨ww, hww⟩ : ∃ ww, ww = bkW o13 b := ⟨_, rfl⟩
      rw [← hLd] at hone HLen HMem HBW
      rw [← hww] at HT HBW
      clear hLd hww HI
      obtain ⟨y0, y1, y2, y3, y4, y5, y6, y7, y8⟩ := b
      simp only [Ans.cs] at *
      have hone' := hone
      clear hone
      obtain ⟨zg_a, zg_b, lg1⟩ := rcell hg6
      go_wp2_with fail
      refine (hone' _ (hL.below (bA hb _))).mono ?_
      rintro e w2 ⟨A, rfl, hb2, hR⟩
      have HR := hide hR
      clear hR hone'
      have hB : Below w.heap.size w w2 := bB (bA hb _) hb2
      have HO2 := hide ((HO.out.lift (bA (b0 _) _)).lift hb2)
      have f10 := kp hb2 (na wr #[.int .i64 y0, .int .i64 y1, .int .i64 y2, .int .i64 y3, .int .i64 y4, .int .i64 y5, .int .i64 y6, .int .i64 y7, .int .i64 y8] 38)
      have f6 := kp hb2 (ka hg6 (.cells #[.int .i64 y0, .int .i64 y1, .int .i64 y2, .int .i64 y3, .int .i64 y4, .int .i64 y5, .int .i64 y6, .int .i64 y7, .int .i64 y8] 38))
      have HLn := hide (bksW_len o13 (bk.take k))
      have hge : w.heap.size ≤ wr.heap.size := hb.size
      have hlt2 : wr.heap.size < w2.heap.size := (Array.getElem?_eq_some_iff.1 f10).1
      clear hb2 zg_a zg_b lg1
      generalize hw2 : w2 = W2 at *
      clear hw2
      generalize hh10 : wr.heap.size = h10 at *
      have eL : (L.map itoaB).length = L.length := by simp
      have cJ : ∀ W, W = W2 → Calls Tryz.prog 22 #[.string ⟨#[47]⟩, .slice A L.length L.length] W fun e w' => e = .returned (.string (joinB sSlash (L.map itoaB))) ∧ Below W.heap.size W w' := by
        rintro W rfl
        have h5 := HLen.out
        have h6 := bytesOf_itoa L HMem.out
        have := con_joined sSlash A L.length (L.map itoaB) W (by simpa using HR.out) (by omega) (by rw [eL]; omega) (by decide)
        rw [eL] at this
        exact this
      have CJ := hide cJ
      clear cJ eL
      go_wp2_with fail
      refine (CJ.out _ rfl).mono ?_
      rintro e w3 ⟨rfl, hb3⟩
      have hB3 := bB hB hb3
      have HO3 := hide (HO2.out.lift hb3)
      have f10' := kp hb3 f10
      have f6' := kp hb3 f6
      have hsz3 := hb3.size
      clear CJ
      obtain ⟨zg_a, zg_b, lg1⟩ := rcell f10'
      by_cases hy : y0 = 0
      · subst hy
        have HW1 : Hid (ww = joinB sSlash (L.map itoaB)) := hide (by rw [HBW.out]; simp)
        clear HBW
        go_wp2_with (refine wpList_pushW rfl _ _ _ rfl 16 Tryz.underlying66 str_info rfl (by decide) w.heap.size _ (strV (bksW o13 (bk.take k))) (strV [joinB sSlash (L.map itoaB)]) (some ⟨w3.heap.size, 0, none⟩) 1 rfl rfl (HO3.out.lift (bA (b0 _) _)) (InV.new w3 (strV [joinB sSlash (L.map itoaB)]) 9) (strV_one _) (by simp only [strV_len, HLn.out, List.length_cons, List.length_nil, List.length_take]; omega) (bA hB3 _).size ?_; intro v' w4 hO4 hlow hsz hkp)
        have HO4 := hide hO4
        have hB4 : Below w.heap.size w w4 := hlow w (bA hB3 _)
        have f6'' := hkp _ _ _ (ka f6' _) (by decide)
        clear hO4 hlow hkp
        refine ⟨⟨k + 1, by go_num, by omega, hide ?_, f6'', hB4⟩, by simp [intOf]; omega⟩
        rw [HT.out, HW1.out]
        have := HO4.out
        simpa [strV] using this
      · have HW1 : Hid (ww = ⟨#[101]⟩ ++ joinB ⟨#[]⟩ [itoaB y0]) := hide (by rw [HBW.out, if_neg hy])
        clear HBW
        go_wp2_with fail
        refine (con_nums [y0] (by simp) (fun x hx => by simp at hx; subst hx; exact HEr.out) _ 1 w3.heap.size _ rfl rfl rfl (hL.below hB3)).mono ?_
        rintro e w4 ⟨A4, rfl, hb4, hR4⟩
        have HR4 := hide hR4
        clear hR4
        have hB4 := bB (bA hB3 _) hb4
        have HO4 := hide ((HO3.out.lift (bA (b0 _) _)).lift hb4)
        have g10 := kp hb4 (ka f10' (.cells #[.int .i64 y0] 2))
        have g6 := kp hb4 (ka f6' (.cells #[.int .i64 y0] 2))
        have hsz4 := hb4.size
        clear hb4 zg_a zg_b lg1
        generalize hw4 : w4 = W4 at *
        clear hw4
        have cJ : ∀ W, W = W4 → Calls Tryz.prog 22 #[.string ⟨#[]⟩, .slice A4 1 1] W fun e w' => e = .returned (.string (joinB ⟨#[]⟩ [itoaB y0])) ∧ Below W.heap.size W w' := by
          rintro W rfl
          have h6 := bytesOf_itoa [y0] (fun x hx => by simp at hx; subst hx; exact HEr.out)
          exact con_joined ⟨#[]⟩ A4 1 [itoaB y0] W HR4.out (by simp only [List.map_cons, List.map_nil, List.length_cons, List.length_nil] at h6; omega) (by simp) (by decide)
        have CJ := hide cJ
        clear cJ
        go_wp2_with fail
        refine (CJ.out _ rfl).mono ?_
        rintro e w5 ⟨rfl, hb5⟩
        have hB5 := bB hB4 hb5
        have HO5 := hide (HO4.out.lift hb5)
        have k6 := kp hb5 g6
        have hnl : (9223372036854775807 < 1 + (joinB ⟨#[]⟩ [itoaB y0]).size) = False := by
          have h1 := joinB_size ⟨#[]⟩ [itoaB y0]
          have h2 := itoaB_len y0 HEr.out
          simp only [bytesOf, List.map_cons, List.map_nil, List.sum_cons, List.sum_nil, List.length_cons, List.length_nil] at h1
          have h4 : (ByteArray.mk #[]).size = 0 := rfl
          simp only [eq_iff_iff, iff_false]
          omega
        clear CJ
        go_wp2_with (refine wpList_pushW rfl _ _ _ rfl 16 Tryz.underlying66 str_info rfl (by decide) w.heap.size _ (strV (bksW o13 (bk.take k))) (strV [⟨#[101]⟩ ++ joinB ⟨#[]⟩ [itoaB y0]]) (some ⟨w5.heap.size, 0, none⟩) 1 rfl rfl ?ha ?hb ?hc ?hd ?he ?hf)
        case ha => exact HO5.out.lift (bA (b0 _) _)
        case hb => exact InV.new w5 (strV [⟨#[101]⟩ ++ joinB ⟨#[]⟩ [itoaB y0]]) 9
        case hc => exact strV_one _
        case hd => simp only [strV_len, HLn.out, List.length_cons, List.length_nil, List.length_take]; omega
        case he => exact (bA hB5 _).size
        intro v' w6 hO6 hlow hsz hkp
        have HO6 := hide hO6
        have hB6 : Below w.heap.size w w6 := hlow w (bA hB5 _)
        have f6'' := hkp _ _ _ (ka k6 _) (by decide)
        clear hO6 hlow hkp
        go_wp2
        refine ⟨⟨k + 1, by go_num, by omega, hide ?_, f6'', hB6⟩, by simp [intOf]; omega⟩
        rw [HT.out, HW1.out]
        have := HO6.out
        simpa [strV] using this
    · obtain rfl : k = bk.length := by omega
      have hO := HO.out
      rw [List.take_length] at hO
      have HO1 := hide hO
      clear hO
      have HBS := hide (bksW_bytes o13 bk HAI.out)
      have HSL := hide (bksW_len o13 bk)
      go_wp2_with fail
      refine (con_joinedO sBlank HO1.out (by have := HBS.out; omega) (by have := HSL.out; omega) (by decide)).mono ?_
      rintro e w4 ⟨rfl, hb4⟩
      have hB4 := bB hb hb4
      go_wp2
      go_ret
      exact ⟨rfl, hB4⟩
end Go.Proofs.YtlnonecibpjcoaaGreatDoor

namespace Go.Proofs.YtlnonecibpjcoaaGreatDoor
open Go.RowKit
attribute [local go_sem] Oper.semAt_some

/-- digits ahead of others -/
def decB (u : Nat) : ByteArray := ⟨(Lib.decDigits u).toArray⟩
theorem decB_small {u : Nat} (h : u < 10) : decB u = ⟨#[UInt8.ofNat (48 + u)]⟩ := by
  unfold decB
  rw [Lib.decDigits, dif_pos h]
theorem ba_append (a b : List UInt8) : (⟨a.toArray⟩ ++ ⟨b.toArray⟩ : ByteArray) = ⟨(a ++ b).toArray⟩ := by
  apply ByteArray.ext
  simp [ByteArray.data_append]
theorem decB_big {u : Nat} (h : ¬ u < 10) : decB u = decB (u / 10) ++ ⟨#[UInt8.ofNat (48 + u % 10)]⟩ := by
  unfold decB
  rw [Lib.decDigits, dif_neg h]
  rw [show (⟨#[UInt8.ofNat (48 + u % 10)]⟩ : ByteArray) = ⟨[UInt8.ofNat (48 + u % 10)].toArray⟩ from rfl, ba_append]
theorem decB_len (u : Nat) (h : u < 18446744073709551616) : (decB u).size ≤ 20 := by
  have := decDigits_len 19 u (by omega)
  simpa [decB, ByteArray.size] using this

/-- the magnitude of a number -/
def magOf (n : Int) : Nat := if n < 0 then n.natAbs else n.toNat
theorem itoaB_eq (n : Int) : itoaB n = if n < 0 then ⟨#[45]⟩ ++ decB (magOf n) else decB (magOf n) := by
  unfold itoaB Lib.itoa decB magOf
  split
  · rw [show (⟨#[45]⟩ : ByteArray) = ⟨[45].toArray⟩ from rfl, ba_append]; rfl
  · rfl

/-- one byte as a string -/
theorem conv1 (w : World) (x : Nat) : (convert 135 9 (.slice (some ⟨w.heap.size, 0, none⟩) 1 1)).run Tryz.prog (w.alloc (.cells #[.int .u8 (x : Int)] 5)) = .ok (.string ⟨#[UInt8.ofNat x]⟩) (w.alloc (.cells #[.int .u8 (x : Int)] 5)) := by
  rw [run_convert_bytes_string _ 135 9 5 _ 1 1 Tryz.underlying135 Tryz.underlying5 Tryz.underlying9]
  refine (run_bytesToString _ ⟨w.heap.size, 0, none⟩ 1 1 [(x : Int)] ?_).trans ?_
  · refine run_loadCells_list (P := Tryz.prog) _ ⟨w.heap.size, 0, none⟩ [.int .u8 (x : Int)] (fun j v hv => ?_)
    have hj : j < 1 := (List.getElem?_eq_some_iff.1 hv).1
    have : j = 0 := by omega
    subst this
    simp at hv
    subst hv
    exact (cell_of_row _ _ 0 _ _ (0, 0) (na w #[.int .u8 (x : Int)] 5))
  · simp only [List.foldl_cons, List.foldl_nil, Int.toNat_natCast]
    rfl

def strZ (v : Value) : Nat := match v with | .string s => if s.size = 0 then 1 else 0 | _ => 0
/-- how far the digits are laid -/
def digI (m q : Nat) (s : ByteArray) : Prop := (q = m ∧ s = ⟨#[]⟩) ∨ (0 < s.size ∧ ((q = 0 ∧ s = decB m) ∨ (0 < q ∧ decB q ++ s = decB m)))
theorem digI_step {m q : Nat} {s : ByteArray} (h : digI m q s) (hg : 0 < q ∨ s = ⟨#[]⟩) : digI m (q / 10) (⟨#[UInt8.ofNat (48 + q % 10)]⟩ ++ s) := by
  have hsz : 0 < ((⟨#[UInt8.ofNat (48 + q % 10)]⟩ : ByteArray) ++ s).size := by rw [ByteArray.size_append]; show 0 < 1 + _; omega
  refine .inr ⟨hsz, ?_⟩
  have e0 : ∀ x : ByteArray, x ++ ⟨#[]⟩ = x := fun x => by apply ByteArray.ext; simp [ByteArray.data_append]
  by_cases hq : q < 10
  · have e1 : q / 10 = 0 := by omega
    have e2 : q % 10 = q := by omega
    rw [e1, e2]
    refine .inl ⟨rfl, ?_⟩
    rcases h with ⟨rfl, rfl⟩ | ⟨hp, ⟨rfl, h0⟩ | ⟨h1, h2⟩⟩
    · rw [e0, decB_small hq]
    · rcases hg with hg | hg
      · omega
      · rw [hg] at hp; exact absurd hp (by decide)
    · rw [← h2, decB_small hq]
  · refine .inr ⟨by omega, ?_⟩
    rw [← ByteArray.append_assoc, ← decB_big hq]
    rcases h with ⟨rfl, rfl⟩ | ⟨_, ⟨rfl, rfl⟩ | ⟨h1, h2⟩⟩
    · rw [e0]
    · omega
    · exact h2
theorem digI_end {m : Nat} {s : ByteArray} (h : digI m 0 s) (hs : s ≠ ⟨#[]⟩) : s = decB m := by
  rcases h with ⟨rfl, rfl⟩ | ⟨_, ⟨_, h⟩ | ⟨h1, _⟩⟩
  · exact absurd rfl hs
  · exact h
  · omega

theorem digI_size {m q : Nat} {s : ByteArray} (h : digI m q s) (hm : m < 18446744073709551616) : s.size ≤ 20 := by
  have h1 := decB_len m hm
  rcases h with ⟨_, rfl⟩ | ⟨_, ⟨_, rfl⟩ | ⟨_, h2⟩⟩
  · decide
  · exact h1
  · rw [← h2, ByteArray.size_append] at h1
    omega
theorem strZ_zero {s : ByteArray} (h : 0 < s.size) : strZ (.string s) = 0 := by
  unfold strZ
  simp only
  rw [if_neg (by omega)]
theorem strZ_nil : strZ (.string ⟨#[]⟩) = 1 := rfl
set_option maxRecDepth 100000 in
set_option maxHeartbeats 4000000 in
theorem ref_Digits (n : Int) (hn : i64In n) (w : World) : Calls Tryz.prog 25 #[.int .i64 n] w fun e w' => e = .returned (.string (itoaB n)) ∧ Below w.heap.size w w' := by
  obtain ⟨h1, h2⟩ := hn
  by_cases hneg : n < 0
  · have e1 : IntKind.u64.wrap n = n + 18446744073709551616 := by
      simp only [IntKind.wrap, IntKind.bits, IntKind.signed]
      first
        | omega
        | (simp; omega)
    have e2 : IntKind.u64.wrap (-(n + 18446744073709551616)) = -n := by
      simp only [IntKind.wrap, IntKind.bits, IntKind.signed]
      first
        | omega
        | (simp; omega)
    obtain ⟨m, hm⟩ : ∃ m : Nat, -n = m := ⟨n.natAbs, by omega⟩
    rw [hm] at e2
    have hm2 : m ≤ 9223372036854775808 := by omega
    have HI : Hid (itoaB n = ⟨#[45]⟩ ++ decB m) := hide (by rw [itoaB_eq, if_pos hneg]; unfold magOf; rw [if_pos hneg]; congr 2; omega)
    clear hm
    go_enter Tryz.func25, Tryz.ntmps25
    go_wp2_with fail
    go_loopw [3, 4] (fun v3 v4 wr => ∃ (q : Nat) (s : ByteArray), v3 = .int .u64 q ∧ v4 = .string s ∧ q ≤ m ∧ s.size ≤ 1000 ∧ Hid (digI m q s) ∧ Below w.heap.size w wr) (fun v3 v4 _ => 2 * (intOf v3).toNat + strZ v4)
    case atStart => exact ⟨m, ⟨#[]⟩, by simp only [e2], rfl, by omega, by decide, hide (.inl ⟨rfl, rfl⟩), b0 w⟩
    case round =>
      obtain ⟨q, s, rfl, rfl, hq, hs, HD, hb⟩ := hrel
      have hq64 : (q : Int) < 18446744073709551616 := by omega
      by_cases h0 : 0 < q
      · have hS := digI_step HD.out (.inl h0)
        obtain ⟨x, hx⟩ : ∃ x, x = 48 + q % 10 := ⟨_, rfl⟩
        rw [← hx] at hS
        have HS := hide hS
        have e5 : (48 + (q : Int) % 10) = (x : Int) := by omega
        have hx8 : x ≤ 57 := by omega
        have hcv := conv1 wr x
        obtain ⟨y, hy⟩ : ∃ y : ByteArray, y = ⟨#[UInt8.ofNat x]⟩ := ⟨_, rfl⟩
        have hy1 : y.size = 1 := by rw [hy]; rfl
        rw [← hy] at hcv hS
        have HY := hide hy
        have hnl : (9223372036854775807 < y.size + s.size) = False := by simp only [eq_iff_iff, iff_false]; omega
        have HY1 := hide hy1
        have hb' := bA hb (.cells #[.int .u8 (x : Int)] 5)
        have hd : decide (0 < q) = true := decide_eq_true h0
        have hd0 : (q = 0) = False := by simp only [eq_iff_iff, iff_false]; omega
        have H0 := hide h0
        clear h0 hS hx hy hy1
        go_wp2
        refine ⟨⟨q / 10, y ++ s, by simp, rfl, by omega, ?_, ?_, hb'⟩, ?_⟩
        · have := digI_size HS.out (by omega)
          rw [HY.out]; omega
        · rw [HY.out]; exact HS
        · rw [strZ_zero (s := y ++ s) (by rw [ByteArray.size_append, HY1.out]; omega)]
          have := H0.out
          simp only [intOf, Int.toNat_natCast]
          omega
      · obtain rfl : q = 0 := by omega
        clear h0
        by_cases hse : s = ⟨#[]⟩
        · subst hse
          have HS := hide (digI_step HD.out (.inr rfl))
          have hcv : (convert 135 9 (.slice (some ⟨wr.heap.size, 0, none⟩) 1 1)).run Tryz.prog (wr.alloc (.cells #[.int .u8 48] 5)) = .ok (.string ⟨#[48]⟩) (wr.alloc (.cells #[.int .u8 48] 5)) := conv1 wr 48
          have hb' := bA hb (.cells #[.int .u8 48] 5)
          go_wp2
          refine ⟨⟨0, _, by simp, rfl, by omega, by decide, HS, hb'⟩, ?_⟩
          rw [strZ_nil, strZ_zero (by decide)]
          simp [intOf]
        · have HE := hide (digI_end HD.out hse)
          have hdb : (s.toList == []) = false := by
            rw [ByteArray.toList_eq]
            cases h : s.data.toList with
            | nil => exact absurd (ByteArray.ext (by simpa using h)) hse
            | cons a l => rfl
          clear hse
          go_wp2
          go_ret
          exact ⟨by rw [HI.out, HE.out]; rfl, hb⟩
  · obtain ⟨m, rfl⟩ : ∃ m : Nat, n = m := ⟨n.toNat, by omega⟩
    have hm2 : m ≤ 9223372036854775808 := by omega
    have HI : Hid (itoaB (m : Int) = decB m) := hide (by rw [itoaB_eq, if_neg hneg]; unfold magOf; rw [if_neg hneg]; congr 1)
    clear hneg
    go_enter Tryz.func25, Tryz.ntmps25
    go_wp2_with fail
    go_loopw [3, 4] (fun v3 v4 wr => ∃ (q : Nat) (s : ByteArray), v3 = .int .u64 q ∧ v4 = .string s ∧ q ≤ m ∧ s.size ≤ 1000 ∧ Hid (digI m q s) ∧ Below w.heap.size w wr) (fun v3 v4 _ => 2 * (intOf v3).toNat + strZ v4)
    case atStart => exact ⟨m, ⟨#[]⟩, rfl, rfl, by omega, by decide, hide (.inl ⟨rfl, rfl⟩), b0 w⟩
    case round =>
      obtain ⟨q, s, rfl, rfl, hq, hs, HD, hb⟩ := hrel
      have hq64 : (q : Int) < 18446744073709551616 := by omega
      by_cases h0 : 0 < q
      · have hS := digI_step HD.out (.inl h0)
        obtain ⟨x, hx⟩ : ∃ x, x = 48 + q % 10 := ⟨_, rfl⟩
        rw [← hx] at hS
        have HS := hide hS
        have e5 : (48 + (q : Int) % 10) = (x : Int) := by omega
        have hx8 : x ≤ 57 := by omega
        have hcv := conv1 wr x
        obtain ⟨y, hy⟩ : ∃ y : ByteArray, y = ⟨#[UInt8.ofNat x]⟩ := ⟨_, rfl⟩
        have hy1 : y.size = 1 := by rw [hy]; rfl
        rw [← hy] at hcv hS
        have HY := hide hy
        have hnl : (9223372036854775807 < y.size + s.size) = False := by simp only [eq_iff_iff, iff_false]; omega
        have HY1 := hide hy1
        have hb' := bA hb (.cells #[.int .u8 (x : Int)] 5)
        have hd : decide (0 < q) = true := decide_eq_true h0
        have hd0 : (q = 0) = False := by simp only [eq_iff_iff, iff_false]; omega
        have H0 := hide h0
        clear h0 hS hx hy hy1
        go_wp2
        refine ⟨⟨q / 10, y ++ s, by simp, rfl, by omega, ?_, ?_, hb'⟩, ?_⟩
        · have := digI_size HS.out (by omega)
          rw [HY.out]; omega
        · rw [HY.out]; exact HS
        · rw [strZ_zero (s := y ++ s) (by rw [ByteArray.size_append, HY1.out]; omega)]
          have := H0.out
          simp only [intOf, Int.toNat_natCast]
          omega
      · obtain rfl : q = 0 := by omega
        clear h0
        by_cases hse : s = ⟨#[]⟩
        · subst hse
          have HS := hide (digI_step HD.out (.inr rfl))
          have hcv : (convert 135 9 (.slice (some ⟨wr.heap.size, 0, none⟩) 1 1)).run Tryz.prog (wr.alloc (.cells #[.int .u8 48] 5)) = .ok (.string ⟨#[48]⟩) (wr.alloc (.cells #[.int .u8 48] 5)) := conv1 wr 48
          have hb' := bA hb (.cells #[.int .u8 48] 5)
          go_wp2
          refine ⟨⟨0, _, by simp, rfl, by omega, by decide, HS, hb'⟩, ?_⟩
          rw [strZ_nil, strZ_zero (by decide)]
          simp [intOf]
        · have HE := hide (digI_end HD.out hse)
          have hdb : (s.toList == []) = false := by
            rw [ByteArray.toList_eq]
            cases h : s.data.toList with
            | nil => exact absurd (ByteArray.ext (by simpa using h)) hse
            | cons a l => rfl
          clear hse
          go_wp2
          go_ret
          exact ⟨by rw [HI.out, HE.out]; rfl, hb⟩
end Go.Proofs.YtlnonecibpjcoaaGreatDoor

namespace Go.Proofs.YtlnonecibpjcoaaGreatDoor
open Go.RowKit
attribute [local go_sem] Oper.semAt_some

/-- numbers' words, each with a blank ahead -/
def rowB : List Int → ByteArray
  | [] => ⟨#[]⟩
  | n :: l => sBlank ++ itoaB n ++ rowB l
theorem ba_nil_append (x : ByteArray) : (⟨#[]⟩ : ByteArray) ++ x = x := by apply ByteArray.ext; simp [ByteArray.data_append]
theorem ba_append_nil (x : ByteArray) : x ++ (⟨#[]⟩ : ByteArray) = x := by apply ByteArray.ext; simp [ByteArray.data_append]
theorem rowB_append (l m : List Int) : rowB (l ++ m) = rowB l ++ rowB m := by
  induction l with
  | nil => rw [List.nil_append]; exact (ba_nil_append _).symm
  | cons n l ih => simp only [List.cons_append, rowB, ih, ByteArray.append_assoc]
theorem rowB_take {l : List Int} {k : Nat} (hk : k < l.length) : rowB (l.take (k + 1)) = rowB (l.take k) ++ sBlank ++ itoaB l[k] := by
  rw [List.take_succ_eq_append_getElem hk, rowB_append]
  simp only [rowB]
  rw [ba_append_nil, ByteArray.append_assoc]
theorem rowB_size (l : List Int) (h : ∀ x ∈ l, i64In x) : (rowB l).size ≤ 21 * l.length := by
  induction l with
  | nil => decide
  | cons n l ih =>
    have h1 := ih fun x hx => h x (by simp [hx])
    have h2 := itoaB_len n (h n (by simp))
    have h3 : sBlank.size = 1 := rfl
    simp only [rowB, ByteArray.size_append, List.length_cons]
    omega

set_option maxRecDepth 100000 in
set_option maxHeartbeats 4000000 in
theorem ref_row (A : Option Addr) (c : Nat) (l : List Int) (hl : l.length ≤ 1000000) (hi : ∀ x ∈ l, i64In x) (w : World) (hR : InV w A (intV l)) :
    Calls Tryz.prog 26 #[.slice A l.length c] w fun e w' => e = .returned (.string (rowB l)) ∧ Below w.heap.size w w' := by
  have HI := hide hi
  have HR := hide hR
  clear hi hR
  go_enter Tryz.func26, Tryz.ntmps26
  go_wp2_with fail
  go_loopw [4, 3] (fun vi vo wr => ∃ (k : Nat) (s : ByteArray), vi = .int .i64 k ∧ vo = .string s ∧ k ≤ l.length ∧ Hid (s = rowB (l.take k)) ∧ Below w.heap.size w wr) (fun vi _ _ => l.length - (intOf vi).toNat)
  case atStart => exact ⟨0, _, rfl, rfl, by omega, hide (by simp [rowB]), b0 w⟩
  case round =>
    obtain ⟨k, s, rfl, rfl, hk, HS, hb⟩ := hrel
    by_cases hlt : k < l.length
    · obtain ⟨ad, rfl, -, hc⟩ := (HR.out.below hb) (by rw [intV_len]; omega)
      have q1 := hc k (by rw [intV_len]; omega)
      have e1 : (intV l)[k]'(by rw [intV_len]; omega) = .int .i64 l[k] := by simp [intV]
      rw [e1] at q1
      have HX := hide (HI.out l[k] (List.getElem_mem hlt))
      have HT := hide (rowB_take hlt)
      obtain ⟨x, hx⟩ : ∃ x, x = l[k] := ⟨_, rfl⟩
      rw [← hx] at q1 HX HT
      clear hc e1 hx
      have hs : s.size ≤ 21000000 := by
        rw [HS.out]
        have := rowB_size (l.take k) (fun y hy => HI.out y (List.mem_of_mem_take hy))
        rw [List.length_take] at this
        omega
      have hn := itoaB_len x HX.out
      have HN := hide hn
      have hnl : (9223372036854775807 < s.size + 1) = False := by simp only [eq_iff_iff, iff_false]; omega
      have hnl2 : (9223372036854775807 < s.size + 1 + (itoaB x).size) = False := by simp only [eq_iff_iff, iff_false]; omega
      clear hn hs
      go_wp2_with fail
      refine (ref_Digits x HX.out _).mono ?_
      rintro e w2 ⟨rfl, hb2⟩
      have hB := bB hb hb2
      go_wp2
      refine ⟨⟨k + 1, _, by go_num, rfl, by omega, hide ?_, hB⟩, by simp [intOf]; omega⟩
      rw [HT.out, ← HS.out]
      rfl
    · obtain rfl : k = l.length := by omega
      have hs := HS.out
      rw [List.take_length] at hs
      subst hs
      go_wp2
      go_ret
      exact ⟨rfl, hb⟩
end Go.Proofs.YtlnonecibpjcoaaGreatDoor

namespace Go.Proofs.YtlnonecibpjcoaaGreatDoor
open Go.RowKit
attribute [local go_sem] Oper.semAt_some

/-- numbers' words, with something between each two -/
def oneB (sep : ByteArray) (what : Int) (a : Ans) : ByteArray :=
  if what = 1 then itoaB a.cnt else if what = 5 then itoaB a.mc ++ sep ++ itoaB a.lw ++ sep ++ itoaB a.lr ++ sep ++ itoaB a.hw ++ sep ++ itoaB a.hr else itoaB a.lo ++ sep ++ itoaB a.hi

set_option maxRecDepth 100000 in
set_option maxHeartbeats 4000000 in
theorem ref_one (what : Int) (a : Ans) (ha : ∀ x ∈ a.l, i64In x) (sep : ByteArray) (hsep : sep.size ≤ 10) (w : World) :
    Calls Tryz.prog 27 #[.int .i64 what, .agg a.cs, .string sep] w fun e w' => e = .returned (.string (oneB sep what a)) ∧ Below w.heap.size w w' := by
  obtain ⟨x0, x1, x2, x3, x4, x5, x6, x7, x8⟩ := a
  have HA := hide ha
  clear ha
  simp only [Ans.l, Ans.cs, oneB] at *
  have D := fun (x : Int) (hx : x ∈ [x0, x1, x2, x3, x4, x5, x6, x7, x8]) W => ref_Digits x (HA.out x hx) W
  have Z := fun (x : Int) (hx : x ∈ [x0, x1, x2, x3, x4, x5, x6, x7, x8]) => itoaB_len x (HA.out x hx)
  have z1 := Z x1 (by simp)
  have z2 := Z x2 (by simp)
  have z3 := Z x3 (by simp)
  have z4 := Z x4 (by simp)
  have z5 := Z x5 (by simp)
  have z6 := Z x6 (by simp)
  have z7 := Z x7 (by simp)
  have z8 := Z x8 (by simp)
  clear Z
  by_cases h1 : what = 1
  · subst h1
    simp only [if_true]
    go_enter Tryz.func27, Tryz.ntmps27
    go_wp2_with fail
    refine (D x1 (by simp) _).mono ?_
    rintro e w2 ⟨rfl, hb2⟩
    have hB := bB (bA (b0 w) _) hb2
    go_wp2
    go_ret
    exact ⟨rfl, hB⟩
  · rw [if_neg h1]
    by_cases h5 : what = 5
    · subst h5
      simp only [if_true]
      have f7 := na (w.alloc (.cells #[.int .i64 x0, .int .i64 x1, .int .i64 x2, .int .i64 x3, .int .i64 x4, .int .i64 x5, .int .i64 x6, .int .i64 x7, .int .i64 x8] 38)) #[.int .i64 x4, .int .i64 x5, .int .i64 x6, .int .i64 x7, .int .i64 x8] 36
      have hB1 : Below w.heap.size w ((w.alloc (.cells #[.int .i64 x0, .int .i64 x1, .int .i64 x2, .int .i64 x3, .int .i64 x4, .int .i64 x5, .int .i64 x6, .int .i64 x7, .int .i64 x8] 38)).alloc (.cells #[.int .i64 x4, .int .i64 x5, .int .i64 x6, .int .i64 x7, .int .i64 x8] 36)) := bA (bA (b0 w) _) _
      have F7 := hide f7
      have HB1 := hide hB1
      clear f7 hB1
      go_enter Tryz.func27, Tryz.ntmps27
      go_wp2_with fail
      have f7 := F7.out
      simp only [World.size_alloc] at f7
      refine Abs.wp_region_abs (Abs.cls0 _) [0, 1, 2, 3, 4, 5, 6, 7, 8, 9, 10, 11, 12, 13, 14, 15, 16, 17, 18, 19, 20, 21, 22, 23, 24, 25, 26, 27, 28, 29, 30, 31] (by kernel_rfl) (by kernel_rfl) (Below.refl _ _).drew ?_
      repeat (first | (refine Abs.step_pure rfl rfl (fun K hK => ?_); go_simp; (try go_bits); (first | refine hK _ _ ?_ | (simp only [↓IntWalk.iteOmega]; go_simp; (try go_bits); refine hK _ _ ?_)); clear hK K) | (refine Abs.step_load (v := ?_) rfl rfl (by kernel_rfl) rfl (fun w0 hI => ?_) (fun K hK => ?_); rotate_left; (· have z0 := (rcell (kp hI (f7))).1; go_simp; rfl); (simp only [Act.put, List.setIfInBounds_toArray, List.set_cons_zero, List.set_cons_succ]; refine hK _ _ ?_; clear hK K)))
      (refine Abs.step_call_val (f := ?_) (args := ?_) (v := ?_) rfl rfl rfl rfl (fun w0 => ?_) (fun w0 hI => ?_) (fun K hK => ?_); rotate_left 3; (· go_simp; (constructor <;> rfl)); (· exact D x4 (by simp) _); (simp only [Act.put, List.setIfInBounds_toArray, List.set_cons_zero, List.set_cons_succ]; refine hK _ _ ?_; clear hK K))
      repeat (first | (refine Abs.step_pure rfl rfl (fun K hK => ?_); go_simp; (try go_bits); (first | refine hK _ _ ?_ | (simp only [↓IntWalk.iteOmega]; go_simp; (try go_bits); refine hK _ _ ?_)); clear hK K) | (refine Abs.step_load (v := ?_) rfl rfl (by kernel_rfl) rfl (fun w0 hI => ?_) (fun K hK => ?_); rotate_left; (· have z0 := (rcell (kp hI (f7))).1; go_simp; rfl); (simp only [Act.put, List.setIfInBounds_toArray, List.set_cons_zero, List.set_cons_succ]; refine hK _ _ ?_; clear hK K)))
      (refine Abs.step_call_val (f := ?_) (args := ?_) (v := ?_) rfl rfl rfl rfl (fun w0 => ?_) (fun w0 hI => ?_) (fun K hK => ?_); rotate_left 3; (· go_simp; (constructor <;> rfl)); (· exact D x5 (by simp) _); (simp only [Act.put, List.setIfInBounds_toArray, List.set_cons_zero, List.set_cons_succ]; refine hK _ _ ?_; clear hK K))
      repeat (first | (refine Abs.step_pure rfl rfl (fun K hK => ?_); go_simp; (try go_bits); (first | refine hK _ _ ?_ | (simp only [↓IntWalk.iteOmega]; go_simp; (try go_bits); refine hK _ _ ?_)); clear hK K) | (refine Abs.step_load (v := ?_) rfl rfl (by kernel_rfl) rfl (fun w0 hI => ?_) (fun K hK => ?_); rotate_left; (· have z0 := (rcell (kp hI (f7))).1; go_simp; rfl); (simp only [Act.put, List.setIfInBounds_toArray, List.set_cons_zero, List.set_cons_succ]; refine hK _ _ ?_; clear hK K)))
      (refine Abs.step_call_val (f := ?_) (args := ?_) (v := ?_) rfl rfl rfl rfl (fun w0 => ?_) (fun w0 hI => ?_) (fun K hK => ?_); rotate_left 3; (· go_simp; (constructor <;> rfl)); (· exact D x6 (by simp) _); (simp only [Act.put, List.setIfInBounds_toArray, List.set_cons_zero, List.set_cons_succ]; refine hK _ _ ?_; clear hK K))
      repeat (first | (refine Abs.step_pure rfl rfl (fun K hK => ?_); go_simp; (try go_bits); (first | refine hK _ _ ?_ | (simp only [↓IntWalk.iteOmega]; go_simp; (try go_bits); refine hK _ _ ?_)); clear hK K) | (refine Abs.step_load (v := ?_) rfl rfl (by kernel_rfl) rfl (fun w0 hI => ?_) (fun K hK => ?_); rotate_left; (· have z0 := (rcell (kp hI (f7))).1; go_simp; rfl); (simp only [Act.put, List.setIfInBounds_toArray, List.set_cons_zero, List.set_cons_succ]; refine hK _ _ ?_; clear hK K)))
      (refine Abs.step_call_val (f := ?_) (args := ?_) (v := ?_) rfl rfl rfl rfl (fun w0 => ?_) (fun w0 hI => ?_) (fun K hK => ?_); rotate_left 3; (· go_simp; (constructor <;> rfl)); (· exact D x7 (by simp) _); (simp only [Act.put, List.setIfInBounds_toArray, List.set_cons_zero, List.set_cons_succ]; refine hK _ _ ?_; clear hK K))
      repeat (first | (refine Abs.step_pure rfl rfl (fun K hK => ?_); go_simp; (try go_bits); (first | refine hK _ _ ?_ | (simp only [↓IntWalk.iteOmega]; go_simp; (try go_bits); refine hK _ _ ?_)); clear hK K) | (refine Abs.step_load (v := ?_) rfl rfl (by kernel_rfl) rfl (fun w0 hI => ?_) (fun K hK => ?_); rotate_left; (· have z0 := (rcell (kp hI (f7))).1; go_simp; rfl); (simp only [Act.put, List.setIfInBounds_toArray, List.set_cons_zero, List.set_cons_succ]; refine hK _ _ ?_; clear hK K)))
      (refine Abs.step_call_val (f := ?_) (args := ?_) (v := ?_) rfl rfl rfl rfl (fun w0 => ?_) (fun w0 hI => ?_) (fun K hK => ?_); rotate_left 3; (· go_simp; (constructor <;> rfl)); (· exact D x8 (by simp) _); (simp only [Act.put, List.setIfInBounds_toArray, List.set_cons_zero, List.set_cons_succ]; refine hK _ _ ?_; clear hK K))
      repeat (first | (refine Abs.step_pure rfl rfl (fun K hK => ?_); go_simp; (try go_bits); (first | refine hK _ _ ?_ | (simp only [↓IntWalk.iteOmega]; go_simp; (try go_bits); refine hK _ _ ?_)); clear hK K) | (refine Abs.step_load (v := ?_) rfl rfl (by kernel_rfl) rfl (fun w0 hI => ?_) (fun K hK => ?_); rotate_left; (· have z0 := (rcell (kp hI (f7))).1; go_simp; rfl); (simp only [Act.put, List.setIfInBounds_toArray, List.set_cons_zero, List.set_cons_succ]; refine hK _ _ ?_; clear hK K)))
      intro w3 hb3 hx0 hx1 hx2
      clear hx0 hx1 hx2
      simp only [Abs.T_setF, Abs.T_addA, Abs.T_push, Abs.T_start]
      have hB := bB HB1.out hb3
      go_wp2
      go_ret
      exact ⟨rfl, hB⟩
    · rw [if_neg h5]
      have f4 := na w #[.int .i64 x0, .int .i64 x1, .int .i64 x2, .int .i64 x3, .int .i64 x4, .int .i64 x5, .int .i64 x6, .int .i64 x7, .int .i64 x8] 38
      have F4 := hide f4
      clear f4
      go_enter Tryz.func27, Tryz.ntmps27
      go_wp2_with fail
      have f4 := F4.out
      refine Abs.wp_region_abs (Abs.cls0 _) [0, 1, 2, 3, 4, 5, 6, 7, 8, 9, 10, 11] (by kernel_rfl) (by kernel_rfl) (Below.refl _ _).drew ?_
      repeat (first | (refine Abs.step_pure rfl rfl (fun K hK => ?_); go_simp; (try go_bits); (first | refine hK _ _ ?_ | (simp only [↓IntWalk.iteOmega]; go_simp; (try go_bits); refine hK _ _ ?_)); clear hK K) | (refine Abs.step_load (v := ?_) rfl rfl (by kernel_rfl) rfl (fun w0 hI => ?_) (fun K hK => ?_); rotate_left; (· have z0 := (rcell (kp hI (f4))).1; go_simp; rfl); (simp only [Act.put, List.setIfInBounds_toArray, List.set_cons_zero, List.set_cons_succ]; refine hK _ _ ?_; clear hK K)))
      (refine Abs.step_call_val (f := ?_) (args := ?_) (v := ?_) rfl rfl rfl rfl (fun w0 => ?_) (fun w0 hI => ?_) (fun K hK => ?_); rotate_left 3; (· go_simp; (constructor <;> rfl)); (· exact D x2 (by simp) _); (simp only [Act.put, List.setIfInBounds_toArray, List.set_cons_zero, List.set_cons_succ]; refine hK _ _ ?_; clear hK K))
      repeat (first | (refine Abs.step_pure rfl rfl (fun K hK => ?_); go_simp; (try go_bits); (first | refine hK _ _ ?_ | (simp only [↓IntWalk.iteOmega]; go_simp; (try go_bits); refine hK _ _ ?_)); clear hK K) | (refine Abs.step_load (v := ?_) rfl rfl (by kernel_rfl) rfl (fun w0 hI => ?_) (fun K hK => ?_); rotate_left; (· have z0 := (rcell (kp hI (f4))).1; go_simp; rfl); (simp only [Act.put, List.setIfInBounds_toArray, List.set_cons_zero, List.set_cons_succ]; refine hK _ _ ?_; clear hK K)))
      (refine Abs.step_call_val (f := ?_) (args := ?_) (v := ?_) rfl rfl rfl rfl (fun w0 => ?_) (fun w0 hI => ?_) (fun K hK => ?_); rotate_left 3; (· go_simp; (constructor <;> rfl)); (· exact D x3 (by simp) _); (simp only [Act.put, List.setIfInBounds_toArray, List.set_cons_zero, List.set_cons_succ]; refine hK _ _ ?_; clear hK K))
      repeat (first | (refine Abs.step_pure rfl rfl (fun K hK => ?_); go_simp; (try go_bits); (first | refine hK _ _ ?_ | (simp only [↓IntWalk.iteOmega]; go_simp; (try go_bits); refine hK _ _ ?_)); clear hK K) | (refine Abs.step_load (v := ?_) rfl rfl (by kernel_rfl) rfl (fun w0 hI => ?_) (fun K hK => ?_); rotate_left; (· have z0 := (rcell (kp hI (f4))).1; go_simp; rfl); (simp only [Act.put, List.setIfInBounds_toArray, List.set_cons_zero, List.set_cons_succ]; refine hK _ _ ?_; clear hK K)))
      intro w3 hb3 hx0 hx1 hx2
      clear hx0 hx1 hx2
      simp only [Abs.T_setF, Abs.T_addA, Abs.T_push, Abs.T_start]
      have hB := bB (bA (b0 w) _) hb3
      go_wp2
      go_ret
      exact ⟨rfl, hB⟩
end Go.Proofs.YtlnonecibpjcoaaGreatDoor

namespace Go.Proofs.YtlnonecibpjcoaaGreatDoor
open Go.RowKit
attribute [local go_sem] Oper.semAt_some

theorem InV.of {w : World} {g : Nat} {vs : List Value} {cs : Array Value} {t : TypeId} (h : w.heap[g]? = some (.cells cs t (0, 0))) (hc : cs = vs.toArray) : InV w (some ⟨g, 0, none⟩) vs := fun h0 =>
  ⟨_, rfl, (Array.getElem?_eq_some_iff.1 h).1, fun i hi => by
    subst hc
    rw [show (⟨g, 0, none⟩ : Addr).add i = ⟨g, i, none⟩ by
      unfold Addr.add
      split
      · next h0 => simp [h0]
      · simp]
    rw [cell_of_row _ _ i _ _ (0, 0) h]
    simp [hi]⟩

set_option maxRecDepth 100000 in
set_option maxHeartbeats 4000000 in
theorem ref_Tell_err (o : OpV) (err : Int) (he : err ≠ 0) (hi : i64In err) (a : Ans) (pA : Option Addr) (bn bc : Nat) (kA : Option Addr) (kn kc : Nat) (w : World) :
    Calls Tryz.prog 9 #[.agg o.cs, .agg (repCs err a pA bn bc kA kn kc)] w fun e w' => e = .returned (.string (⟨#[101, 114, 114, 111, 114, 32]⟩ ++ itoaB err)) ∧ Below w.heap.size w w' := by
  obtain ⟨o0, o1, o2, o3, o4, o5, o6, o7, o8, o9, o10, o11, o12, o13, o14, o15, o16, o17⟩ := o
  obtain ⟨x0, x1, x2, x3, x4, x5, x6, x7, x8⟩ := a
  simp only [OpV.cs, repCs]
  have hz := itoaB_len err hi
  go_enter Tryz.func9, Tryz.ntmps9
  go_wp2_with fail
  refine (ref_Digits err hi _).mono ?_
  rintro e w2 ⟨rfl, hb2⟩
  have hB := bB (bA (bA (b0 w) _) _) hb2
  go_wp2
  go_ret
  exact ⟨rfl, hB⟩

set_option maxRecDepth 100000 in
set_option maxHeartbeats 4000000 in
theorem ref_Tell_ok (o : OpV) (ho : noAsk o) (a : Ans) (pA : Option Addr) (bn bc : Nat) (kA : Option Addr) (kn kc : Nat) (w : World) :
    Calls Tryz.prog 9 #[.agg o.cs, .agg (repCs 0 a pA bn bc kA kn kc)] w fun e w' => e = .returned (.string sOk) ∧ Below w.heap.size w w' := by
  obtain ⟨o0, o1, o2, o3, o4, o5, o6, o7, o8, o9, o10, o11, o12, o13, o14, o15, o16, o17⟩ := o
  obtain ⟨x0, x1, x2, x3, x4, x5, x6, x7, x8⟩ := a
  simp only [OpV.cs, repCs, noAsk] at *
  have hc : ¬ (o0 = 5) ∨ (o0 = 5 ∧ o9 < 1) ∨ (o0 = 5 ∧ ¬ o9 < 1 ∧ 8 < o9) := by omega
  clear ho
  rcases hc with h1 | ⟨rfl, h2⟩ | ⟨rfl, h2, h3⟩
  all_goals
    go_enter Tryz.func9, Tryz.ntmps9
    go_wp2
    go_ret
    exact ⟨rfl, bA (bA (bA (b0 w) _) _) _⟩

theorem oneB_size (sep : ByteArray) (what : Int) (a : Ans) (ha : ∀ x ∈ a.l, i64In x) (hs : sep.size ≤ 10) : (oneB sep what a).size ≤ 200 := by
  obtain ⟨x0, x1, x2, x3, x4, x5, x6, x7, x8⟩ := a
  simp only [Ans.l, oneB] at *
  have Z := fun (x : Int) (hx : x ∈ [x0, x1, x2, x3, x4, x5, x6, x7, x8]) => itoaB_len x (ha x hx)
  have z1 := Z x1 (by simp)
  have z2 := Z x2 (by simp)
  have z3 := Z x3 (by simp)
  have z4 := Z x4 (by simp)
  have z5 := Z x5 (by simp)
  have z6 := Z x6 (by simp)
  have z7 := Z x7 (by simp)
  have z8 := Z x8 (by simp)
  split
  · omega
  · split <;> simp only [ByteArray.size_append] <;> omega

set_option maxRecDepth 100000 in
set_option maxHeartbeats 4000000 in
theorem ref_Tell_one (o : OpV) (hk : o.kind = 5) (hq : 1 ≤ o.qk ∧ o.qk ≤ 6) (a : Ans) (ha : ∀ x ∈ a.l, i64In x) (pA : Option Addr) (bn bc : Nat) (kA : Option Addr) (kn kc : Nat) (w : World) :
    Calls Tryz.prog 9 #[.agg o.cs, .agg (repCs 0 a pA bn bc kA kn kc)] w fun e w' => e = .returned (.string (sOk ++ sBlank ++ oneB sBlank o.qk a)) ∧ Below w.heap.size w w' := by
  have hone := fun W => ref_one o.qk a ha ⟨#[32]⟩ (by decide) W
  have hsz : (oneB ⟨#[32]⟩ o.qk a).size ≤ 200 := oneB_size _ _ a ha (by decide)
  obtain ⟨s, hs⟩ : ∃ s, s = oneB ⟨#[32]⟩ o.qk a := ⟨_, rfl⟩
  rw [← hs] at hone hsz
  rw [show oneB sBlank o.qk a = s from hs.symm]
  clear hs ha
  obtain ⟨o0, o1, o2, o3, o4, o5, o6, o7, o8, o9, o10, o11, o12, o13, o14, o15, o16, o17⟩ := o
  obtain ⟨x0, x1, x2, x3, x4, x5, x6, x7, x8⟩ := a
  simp only [OpV.cs, repCs, Ans.cs] at *
  subst hk
  obtain ⟨hq1, hq2⟩ := hq
  have e1 : decide (o9 < 1) = false := decide_eq_false (by omega)
  have e2 : decide (o9 > 8) = false := decide_eq_false (by omega)
  have e3 : (o9 = 7) = False := by simp; omega
  have e4 : (o9 = 8) = False := by simp; omega
  go_enter Tryz.func9, Tryz.ntmps9
  go_wp2_with fail
  refine (hone _).mono ?_
  rintro e w2 ⟨rfl, hb2⟩
  have hB := bB (bA (bA (bA (b0 w) _) _) _) hb2
  go_wp2
  go_ret
  exact ⟨rfl, hB⟩
end Go.Proofs.YtlnonecibpjcoaaGreatDoor

namespace Go.Proofs.YtlnonecibpjcoaaGreatDoor
open Go.RowKit
attribute [local go_sem] Oper.semAt_some

def scanB (bs : List Bk) : ByteArray := sOk ++ rowB (bs.flatMap Bk.l)
theorem scanB_take {bs : List Bk} {k : Nat} (hk : k < bs.length) : scanB (bs.take (k + 1)) = scanB (bs.take k) ++ rowB (bs[k].l) := by
  rw [List.take_succ_eq_append_getElem hk]
  simp only [scanB, List.flatMap_append, List.flatMap_cons, List.flatMap_nil, List.append_nil, rowB_append, ByteArray.append_assoc]
theorem scanB_size (bs : List Bk) (h : ∀ b ∈ bs, ∀ x ∈ b.l, i64In x) : (scanB bs).size ≤ 2 + 63 * bs.length := by
  have h1 := rowB_size (bs.flatMap Bk.l) (fun x hx => by
    obtain ⟨b, h1, h2⟩ := List.mem_flatMap.1 hx
    exact h b h1 x h2)
  have h2 := scanW_len bs
  simp only [scanW, List.length_cons, List.length_map] at h2
  have h3 : sOk.size = 2 := rfl
  simp only [scanB, ByteArray.size_append]
  omega

set_option maxRecDepth 100000 in
set_option maxHeartbeats 8000000 in
theorem ref_Tell_scan (o : OpV) (hk : o.kind = 5) (hq : o.qk = 7) (a : Ans) (X : Option Addr) (bc : Nat) (bs : List Bk) (hbs : bs.length ≤ 1000) (hbi : ∀ b ∈ bs, ∀ x ∈ b.l, i64In x) (kA : Option Addr) (kn kc : Nat) (w : World) (hX : InR 3 w X (bs.map Bk.cs)) :
    Calls Tryz.prog 9 #[.agg o.cs, .agg (repCs 0 a X bs.length bc kA kn kc)] w fun e w' => e = .returned (.string (scanB bs)) ∧ Below w.heap.size w w' := by
  obtain ⟨o0, o1, o2, o3, o4, o5, o6, o7, o8, o9, o10, o11, o12, o13, o14, o15, o16, o17⟩ := o
  obtain ⟨x0, x1, x2, x3, x4, x5, x6, x7, x8⟩ := a
  simp only [OpV.cs, repCs] at *
  subst hk hq
  have HX := hide hX
  have HBI := hide hbi
  clear hX hbi
  have hT := na (w.alloc (.cells #[.int .i64 5, .int .i64 o1, .string o2, .int .i64 o3, .int .i64 o4, .int .i64 o5, .slice o6 o7 o8, .int .i64 7, .string o10, .int .i64 o11, .int .i64 o12, .int .i64 o13, .int .i64 o14, .string o15, .int .i64 o16, .int .u64 o17] 29)) #[.int .i64 0, .int .i64 x0, .int .i64 x1, .int .i64 x2, .int .i64 x3, .int .i64 x4, .int .i64 x5, .int .i64 x6, .int .i64 x7, .int .i64 x8, .slice X bs.length bc, .slice kA kn kc] 42
  simp only [World.size_alloc] at hT
  have HT0 := hide (ka hT (.cells #[.int .i64 7, .string o10, .int .i64 o11, .int .i64 o12, .int .i64 o13, .int .i64 o14] 26))
  clear hT
  go_enter Tryz.func9, Tryz.ntmps9
  go_wp2_with fail
  go_loopw [7, 6] (fun vi vo wr => ∃ (k : Nat) (s : ByteArray), vi = .int .i64 k ∧ vo = .string s ∧ k ≤ bs.length ∧ Hid (s = scanB (bs.take k)) ∧ wr.heap[w.heap.size + 1]? = some (.cells #[.int .i64 0, .int .i64 x0, .int .i64 x1, .int .i64 x2, .int .i64 x3, .int .i64 x4, .int .i64 x5, .int .i64 x6, .int .i64 x7, .int .i64 x8, .slice X bs.length bc, .slice kA kn kc] 42 (0, 0)) ∧ Below w.heap.size w wr) (fun vi _ _ => bs.length - (intOf vi).toNat)
  case atStart => exact ⟨0, _, rfl, rfl, by omega, hide rfl, HT0.out, bA (bA (bA (b0 w) _) _) _⟩
  case round =>
    obtain ⟨k, s, rfl, rfl, hk, HS, hg3, hb⟩ := hrel
    obtain ⟨zg_a, zg_b, lg1⟩ := rcell hg3
    by_cases hlt : k < bs.length
    · obtain ⟨ad, rfl, -, -⟩ := HX.out (by simpa using (by omega : 0 < bs.length))
      have hI3 := fun (W : World) (hW : Below w.heap.size w W) => inR3 hW HX.out k hlt
      have HI := hide (HBI.out bs[k] (List.getElem_mem hlt))
      have HT := hide (scanB_take hlt)
      have hsz : s.size ≤ 70000 := by
        rw [HS.out]
        have := scanB_size (bs.take k) (fun b hb => HBI.out b (List.mem_of_mem_take hb))
        rw [List.length_take] at this
        omega
      obtain ⟨b, hbk⟩ : ∃ b, b = bs[k] := ⟨_, rfl⟩
      rw [← hbk] at hI3 HI HT
      clear hbk
      obtain ⟨bt, bv, be⟩ := b
      have hI3' := hide hI3
      clear hI3
      have hrs : (rowB [bt, bv, be]).size ≤ 63 := rowB_size [bt, bv, be] HI.out
      go_wp2_with fail
      refine Abs.wp_region_abs (Abs.cls0 _) [0, 1, 2, 3, 4, 5, 6, 7, 8, 9, 10, 11, 12, 13, 14, 15, 16, 17, 18, 19, 20, 21, 22] (by kernel_rfl) (by kernel_rfl) (Below.refl _ _).drew ?_
      repeat (first | (refine Abs.step_pure rfl rfl (fun K hK => ?_); go_simp; (try go_bits); (first | refine hK _ _ ?_ | (simp only [↓IntWalk.iteOmega]; go_simp; (try go_bits); refine hK _ _ ?_)); clear hK K) | (refine Abs.step_load (v := ?_) rfl rfl (by kernel_rfl) rfl (fun w0 hI => ?_) (fun K hK => ?_); rotate_left; (· have zX := hI3'.out w0 (bB hb hI); obtain ⟨zX1, zX2, zX3⟩ := zX; have z0 := (rcell (kp hI (hg3))).1; go_simp; rfl); (simp only [Act.put, List.setIfInBounds_toArray, List.set_cons_zero, List.set_cons_succ]; refine hK _ _ ?_; clear hK K)))
      (refine Abs.step_new (f := fun g => .slice (some ⟨g, 0, none⟩) 3 3) (obj := (.cells #[.int .i64 bt, .int .i64 bv, .int .i64 be] 2)) rfl rfl rfl rfl (fun w0 => ?_) (fun K hK g_x hv_x hu_x => ?_); (· go_simp; try rfl); (simp only [Act.put, List.setIfInBounds_toArray, List.set_cons_zero, List.set_cons_succ]; refine hK _ _ ?_; clear hK K))
      (refine Abs.step_call (f := ?_) (args := ?_) rfl rfl rfl rfl (fun v _ => v = .string (rowB [bt, bv, be])) (fun _ _ _ h _ => h) (fun w0 => ?_) (fun w0 hI hF => ?_) (fun K hK v w0 hv => ?_); rotate_left 2; (· go_simp; (constructor <;> rfl)); (· exact (ref_row (some ⟨g_x, 0, none⟩) 3 [bt, bv, be] (by simp) HI.out w0 (InV.of ((hF 19 (by kernel_rfl)).2 rfl) rfl)).mono (fun _ _ h => ⟨_, h.1, h.2, rfl⟩)); (replace hv : v = .string (rowB [bt, bv, be]) := hv; subst hv; clear w0; simp only [Act.put, List.setIfInBounds_toArray, List.set_cons_zero, List.set_cons_succ]; refine hK _ _ ?_; clear hK K))
      repeat (first | (refine Abs.step_pure rfl rfl (fun K hK => ?_); go_simp; (try go_bits); (first | refine hK _ _ ?_ | (simp only [↓IntWalk.iteOmega]; go_simp; (try go_bits); refine hK _ _ ?_)); clear hK K) | (refine Abs.step_load (v := ?_) rfl rfl (by kernel_rfl) rfl (fun w0 hI => ?_) (fun K hK => ?_); rotate_left; (· have zX := hI3'.out w0 (bB hb hI); obtain ⟨zX1, zX2, zX3⟩ := zX; have z0 := (rcell (kp hI (hg3))).1; go_simp; rfl); (simp only [Act.put, List.setIfInBounds_toArray, List.set_cons_zero, List.set_cons_succ]; refine hK _ _ ?_; clear hK K)))
      intro w3 hb3 hx0 hx1 hx2
      clear hx0 hx1 hx2
      simp only [Abs.T_setF, Abs.T_addA, Abs.T_push, Abs.T_start]
      have hB := bB hb hb3
      have g3 := kp hb3 hg3
      go_wp2
      refine ⟨⟨k + 1, _, by go_num, rfl, by omega, hide ?_, g3, hB⟩, by simp [intOf]; omega⟩
      rw [HT.out, ← HS.out]
      rfl
    · obtain rfl : k = bs.length := by omega
      have hs := HS.out
      rw [List.take_length] at hs
      subst hs
      go_wp2
      go_ret
      exact ⟨rfl, hb⟩
end Go.Proofs.YtlnonecibpjcoaaGreatDoor

namespace Go.Proofs.YtlnonecibpjcoaaGreatDoor
open Go.RowKit
attribute [local go_sem] Oper.semAt_some

def bkB (what : Int) (a : Ans) : ByteArray := if a.err = 0 then sBlank ++ oneB sSlash what a else ⟨#[32, 101]⟩ ++ itoaB a.err
def bksL (what : Int) : List Ans → ByteArray
  | [] => ⟨#[]⟩
  | a :: l => bkB what a ++ bksL what l
theorem bksL_append (what : Int) (l m : List Ans) : bksL what (l ++ m) = bksL what l ++ bksL what m := by
  induction l with
  | nil => exact (ba_nil_append _).symm
  | cons a l ih => simp only [List.cons_append, bksL, ih, ByteArray.append_assoc]
def bksB (what : Int) (l : List Ans) : ByteArray := sOk ++ bksL what l
theorem bksB_take {what : Int} {bk : List Ans} {k : Nat} (hk : k < bk.length) : bksB what (bk.take (k + 1)) = bksB what (bk.take k) ++ bkB what bk[k] := by
  rw [List.take_succ_eq_append_getElem hk]
  simp only [bksB, bksL_append, bksL, ba_append_nil, ByteArray.append_assoc]
theorem bkB_size (what : Int) (a : Ans) (ha : ∀ x ∈ a.l, i64In x) : (bkB what a).size ≤ 300 := by
  unfold bkB
  split
  · have := oneB_size sSlash what a ha (by decide)
    have h3 : sBlank.size = 1 := rfl
    rw [ByteArray.size_append]; omega
  · have := itoaB_len a.err (ha _ (by simp [Ans.l]))
    have h3 : (⟨#[32, 101]⟩ : ByteArray).size = 2 := rfl
    rw [ByteArray.size_append]; omega
theorem bksB_size (what : Int) (bk : List Ans) (h : ∀ b ∈ bk, ∀ x ∈ b.l, i64In x) : (bksB what bk).size ≤ 2 + 300 * bk.length := by
  have h3 : sOk.size = 2 := rfl
  simp only [bksB, ByteArray.size_append]
  induction bk with
  | nil => have : (bksL what []).size = 0 := rfl
           omega
  | cons a l ih =>
    have h1 := ih fun b hb => h b (by simp [hb])
    have h2 := bkB_size what a (h a (by simp))
    simp only [bksL, ByteArray.size_append, List.length_cons]
    omega

set_option maxRecDepth 100000 in
set_option maxHeartbeats 8000000 in
theorem ref_Tell_buckets (o : OpV) (hk : o.kind = 5) (hq : o.qk = 8) (a : Ans) (X : Option Addr) (bn bc kc : Nat) (bk : List Ans) (has : bk.length ≤ 1000) (hai : ∀ b ∈ bk, ∀ x ∈ b.l, i64In x) (kA : Option Addr) (w : World) (hX : InR 9 w X (bk.map Ans.rs)) :
    Calls Tryz.prog 9 #[.agg o.cs, .agg (repCs 0 a kA bn bc X bk.length kc)] w fun e w' => e = .returned (.string (bksB o.qw bk)) ∧ Below w.heap.size w w' := by
  obtain ⟨o0, o1, o2, o3, o4, o5, o6, o7, o8, o9, o10, o11, o12, o13, o14, o15, o16, o17⟩ := o
  obtain ⟨x0, x1, x2, x3, x4, x5, x6, x7, x8⟩ := a
  simp only [OpV.cs, repCs] at *
  subst hk hq
  have HX := hide hX
  have HAI := hide hai
  clear hX hai
  have hT := na (w.alloc (.cells #[.int .i64 5, .int .i64 o1, .string o2, .int .i64 o3, .int .i64 o4, .int .i64 o5, .slice o6 o7 o8, .int .i64 8, .string o10, .int .i64 o11, .int .i64 o12, .int .i64 o13, .int .i64 o14, .string o15, .int .i64 o16, .int .u64 o17] 29)) #[.int .i64 0, .int .i64 x0, .int .i64 x1, .int .i64 x2, .int .i64 x3, .int .i64 x4, .int .i64 x5, .int .i64 x6, .int .i64 x7, .int .i64 x8, .slice kA bn bc, .slice X bk.length kc] 42
  simp only [World.size_alloc] at hT
  have HT0 := hide (ka hT (.cells #[.int .i64 8, .string o10, .int .i64 o11, .int .i64 o12, .int .i64 o13, .int .i64 o14] 26))
  have hT2 := na ((w.alloc (.cells #[.int .i64 5, .int .i64 o1, .string o2, .int .i64 o3, .int .i64 o4, .int .i64 o5, .slice o6 o7 o8, .int .i64 8, .string o10, .int .i64 o11, .int .i64 o12, .int .i64 o13, .int .i64 o14, .string o15, .int .i64 o16, .int .u64 o17] 29)).alloc (.cells #[.int .i64 0, .int .i64 x0, .int .i64 x1, .int .i64 x2, .int .i64 x3, .int .i64 x4, .int .i64 x5, .int .i64 x6, .int .i64 x7, .int .i64 x8, .slice kA bn bc, .slice X bk.length kc] 42)) #[.int .i64 8, .string o10, .int .i64 o11, .int .i64 o12, .int .i64 o13, .int .i64 o14] 26
  simp only [World.size_alloc] at hT2
  have HT2 := hide hT2
  clear hT hT2
  go_enter Tryz.func9, Tryz.ntmps9
  go_wp2_with fail
  go_loopw [8, 6, 9] (fun vi vo _ wr => ∃ (k : Nat) (s : ByteArray), vi = .int .i64 k ∧ vo = .string s ∧ k ≤ bk.length ∧ Hid (s = bksB o13 (bk.take k)) ∧ wr.heap[w.heap.size + 1]? = some (.cells #[.int .i64 0, .int .i64 x0, .int .i64 x1, .int .i64 x2, .int .i64 x3, .int .i64 x4, .int .i64 x5, .int .i64 x6, .int .i64 x7, .int .i64 x8, .slice kA bn bc, .slice X bk.length kc] 42 (0, 0)) ∧ wr.heap[w.heap.size + 1 + 1]? = some (.cells #[.int .i64 8, .string o10, .int .i64 o11, .int .i64 o12, .int .i64 o13, .int .i64 o14] 26 (0, 0)) ∧ Below w.heap.size w wr) (fun vi _ _ _ => bk.length - (intOf vi).toNat)
  case atStart => exact ⟨0, _, rfl, rfl, by omega, hide rfl, HT0.out, HT2.out, bA (bA (bA (b0 w) _) _) _⟩
  case round =>
    obtain ⟨k, s, rfl, rfl, hk, HS, hg3, hg5, hb⟩ := hrel
    obtain ⟨zg_a, zg_b, lg1⟩ := rcell hg3
    obtain ⟨zh_a, zh_b, lh1⟩ := rcell hg5
    by_cases hlt : k < bk.length
    · obtain ⟨ad, rfl, -, -⟩ := HX.out (by simpa using (by omega : 0 < bk.length))
      obtain ⟨q0, q1, q2, q3, q4, q5, q6, q7, q8⟩ := inR9 hb HX.out k hlt
      have HI := hide (HAI.out bk[k] (List.getElem_mem hlt))
      have HT := hide (bksB_take (what := o13) hlt)
      have hsz : s.size ≤ 400000 := by
        rw [HS.out]
        have := bksB_size o13 (bk.take k) (fun b hb => HAI.out b (List.mem_of_mem_take hb))
        rw [List.length_take] at this
        omega
      obtain ⟨b, hbk⟩ : ∃ b, b = bk[k] := ⟨_, rfl⟩
      rw [← hbk] at q0 q1 q2 q3 q4 q5 q6 q7 q8 HI HT
      clear hbk
      have HBB := hide (show bkB o13 b = if b.err = 0 then sBlank ++ oneB sSlash o13 b else ⟨#[32, 101]⟩ ++ itoaB b.err from rfl)
      have hone := fun W => ref_one o13 b HI.out ⟨#[47]⟩ (by decide) W
      have hos : (oneB ⟨#[47]⟩ o13 b).size ≤ 200 := oneB_size _ o13 b HI.out (by decide)
      have hdg := fun W => ref_Digits b.err (HI.out _ (by simp [Ans.l])) W
      have hds := itoaB_len b.err (HI.out _ (by simp [Ans.l]))
      obtain ⟨ob, hob⟩ : ∃ ob, ob = oneB ⟨#[47]⟩ o13 b := ⟨_, rfl⟩
      rw [← hob] at hone hos
      rw [show oneB sSlash o13 b = ob from hob.symm] at HBB
      obtain ⟨ww, hww⟩ : ∃ ww, ww = bkB o13 b := ⟨_, rfl⟩
      rw [← hww] at HT HBB
      clear hob hww HI
      obtain ⟨y0, y1, y2, y3, y4, y5, y6, y7, y8⟩ := b
      simp only [Ans.cs] at *
      by_cases hy : y0 = 0
      · subst hy
        have HW1 : Hid (ww = sBlank ++ ob) := hide (by rw [HBB.out]; simp)
        clear HBB hdg
        go_wp2_with fail
        refine (hone _).mono ?_
        rintro e w2 ⟨rfl, hb2⟩
        have hB := bB (bA hb _) hb2
        have g3 := kp hb2 (ka hg3 (.cells #[.int .i64 0, .int .i64 y1, .int .i64 y2, .int .i64 y3, .int .i64 y4, .int .i64 y5, .int .i64 y6, .int .i64 y7, .int .i64 y8] 38))
        have g5 := kp hb2 (ka hg5 (.cells #[.int .i64 0, .int .i64 y1, .int .i64 y2, .int .i64 y3, .int .i64 y4, .int .i64 y5, .int .i64 y6, .int .i64 y7, .int .i64 y8] 38))
        go_wp2
        refine ⟨⟨k + 1, _, by go_num, rfl, by omega, hide ?_, g3, g5, hB⟩, by simp [intOf]; omega⟩
        rw [HT.out, ← HS.out, HW1.out, ByteArray.append_assoc]
        rfl
      · have HW1 : Hid (ww = ⟨#[32, 101]⟩ ++ itoaB y0) := hide (by rw [HBB.out, if_neg hy])
        clear HBB hone
        go_wp2_with fail
        refine (hdg _).mono ?_
        rintro e w2 ⟨rfl, hb2⟩
        have hB := bB (bA hb _) hb2
        have g3 := kp hb2 (ka hg3 (.cells #[.int .i64 y0, .int .i64 y1, .int .i64 y2, .int .i64 y3, .int .i64 y4, .int .i64 y5, .int .i64 y6, .int .i64 y7, .int .i64 y8] 38))
        have g5 := kp hb2 (ka hg5 (.cells #[.int .i64 y0, .int .i64 y1, .int .i64 y2, .int .i64 y3, .int .i64 y4, .int .i64 y5, .int .i64 y6, .int .i64 y7, .int .i64 y8] 38))
        go_wp2
        refine ⟨⟨k + 1, _, by go_num, rfl, by omega, hide ?_, g3, g5, hB⟩, by simp [intOf]; omega⟩
        rw [HT.out, ← HS.out, HW1.out, ByteArray.append_assoc]
    · obtain rfl : k = bk.length := by omega
      have hs := HS.out
      rw [List.take_length] at hs
      subst hs
      go_wp2
      go_ret
      exact ⟨rfl, hb⟩
end Go.Proofs.YtlnonecibpjcoaaGreatDoor

namespace Go.Proofs.YtlnonecibpjcoaaGreatDoor
open Go.RowKit

def tailB (sep : ByteArray) : List ByteArray → ByteArray
  | [] => ⟨#[]⟩
  | y :: l => sep ++ y ++ tailB sep l
theorem ba_ext {a b : ByteArray} (h : a.data.toList = b.data.toList) : a = b := ByteArray.ext (by simpa using h)
theorem joinB_cons (sep : ByteArray) : ∀ (l : List ByteArray) (x : ByteArray), joinB sep (x :: l) = x ++ tailB sep l := by
  intro l
  induction l with
  | nil => intro x; apply ba_ext; simp [joinB, Lib.join, tailB, List.intercalate, ByteArray.data_append]
  | cons y l ih =>
    intro x
    have h := congrArg (fun b : ByteArray => b.data.toList) (ih y)
    apply ba_ext
    simp only [joinB, Lib.join, tailB, List.map_cons, ByteArray.data_append, Array.toList_append] at *
    simp only [List.intercalate, List.intersperse, List.flatten_cons, List.append_assoc] at *
    rw [h]
theorem tail_row (l : List Int) : tailB sBlank (l.map itoaB) = rowB l := by
  induction l with
  | nil => rfl
  | cons n l ih => simp only [List.map_cons, tailB, rowB, ih]

theorem tell_err (err : Int) : joinB sBlank [sError, itoaB err] = ⟨#[101, 114, 114, 111, 114, 32]⟩ ++ itoaB err := by
  rw [joinB_cons]
  simp only [tailB, ba_append_nil]
  rw [← ByteArray.append_assoc]
  rfl
theorem tell_ok : joinB sBlank [sOk] = sOk := by
  rw [joinB_cons]
  simp only [tailB, ba_append_nil]
theorem one_join (sep : ByteArray) (what : Int) (a : Ans) : joinB sep ((oneN what a).map itoaB) = oneB sep what a := by
  unfold oneN oneB
  split
  · rw [List.map_cons, List.map_nil, joinB_cons]; simp only [tailB, ba_append_nil]
  · split
    · simp only [List.map_cons, List.map_nil, joinB_cons, tailB, ba_append_nil, ByteArray.append_assoc]
    · simp only [List.map_cons, List.map_nil, joinB_cons, tailB, ba_append_nil, ByteArray.append_assoc]
theorem oneN_ne (what : Int) (a : Ans) : ∃ x l, oneN what a = x :: l := by
  unfold oneN
  split
  · exact ⟨_, _, rfl⟩
  · split <;> exact ⟨_, _, rfl⟩
theorem tell_one (k : Int) (a : Ans) : joinB sBlank (sOk :: (oneN k a).map itoaB) = sOk ++ sBlank ++ oneB sBlank k a := by
  rw [← one_join]
  obtain ⟨x, l, h⟩ := oneN_ne k a
  rw [h, List.map_cons, joinB_cons, joinB_cons]
  simp only [tailB, ByteArray.append_assoc]
theorem tell_scan (bs : List Bk) : joinB sBlank (scanW bs) = scanB bs := by
  unfold scanW scanB
  rw [joinB_cons, tail_row]
theorem bk_word (what : Int) (a : Ans) : sBlank ++ bkW what a = bkB what a := by
  unfold bkW bkB
  split
  · rw [one_join]
  · rw [joinB_cons]
    simp only [tailB, ba_append_nil]
    rw [← ByteArray.append_assoc]
    rfl
theorem tell_buckets (what : Int) (bk : List Ans) : joinB sBlank (bksW what bk) = bksB what bk := by
  unfold bksW bksB
  rw [joinB_cons]
  congr 1
  induction bk with
  | nil => rfl
  | cons a l ih => simp only [List.map_cons, tailB, bksL, ih, bk_word]
end Go.Proofs.YtlnonecibpjcoaaGreatDoor
