/- The console's laws at this program: the words of what is done to a name. The console's laws at this program: the words of what is asked. -/
import Derived.Test.YtlnonecibpjcoaaGreatDoorQa
import Derived.Deep.RegionHeld3
set_option linter.unusedSimpArgs false
set_option linter.unnecessarySimpa false
set_option linter.unusedVariables false
set_option linter.unusedSectionVars false
namespace Go.Proofs.YtlnonecibpjcoaaGreatDoor
open Go.RowKit
attribute [local go_sem] Oper.semAt_some

/-- a row of words -/
def RowsS (w : World) (v : Value) (ss : List ByteArray) : Prop := ∃ A c, v = .slice A ss.length c ∧ RV 9 w A c (strV ss)
theorem RowsS.nil (w : World) : RowsS w (.slice none 0 0) [] := ⟨none, 0, rfl, by simp [strV], by omega, fun h => by simp [strV] at h⟩
theorem RowsS.of {B : Nat} {w : World} {v : Value} {ss : List ByteArray} (h : OwnV 9 B w v (strV ss)) : RowsS w v ss := by
  obtain ⟨A, c, e, h2⟩ := h.cr
  rw [strV_len] at e
  exact ⟨A, c, e, h2⟩
theorem RowsS.below {w w' : World} {v : Value} {ss : List ByteArray} (h : RowsS w v ss) (hb : Below w.heap.size w w') : RowsS w' v ss := by
  obtain ⟨A, c, e, h1, h2, h3⟩ := h
  refine ⟨A, c, e, h1, h2, fun hl => ?_⟩
  obtain ⟨g, o, cur, e1, hg, hc⟩ := h3 hl
  exact ⟨g, o, cur, e1, (hb.block g (Array.getElem?_eq_some_iff.1 hg).1).trans hg, hc⟩
/-- numbers' words, as a call hands them back -/
def NumsR (l : List Int) (v : Value) (w : World) : Prop := ∃ A, v = .slice A l.length l.length ∧ RV 9 w A l.length (strV (l.map itoaB))
theorem Cl_NumsR (l : List Int) {v : Value} : Abs.Cl (fun _ => False) (NumsR l v) := by
  intro w w' ⟨A, e, hr⟩ h
  refine ⟨A, e, hr.cap, hr.top, fun hl => ?_⟩
  obtain ⟨g, o, cur, e1, hg, hc⟩ := hr.mem hl
  exact ⟨g, o, cur, e1, (h.block g (Array.getElem?_eq_some_iff.1 hg).1 (fun hf => hf)).trans hg, hc⟩
theorem NumsR.inV {l : List Int} {A : Option Addr} {n c : Nat} {w : World} (h : NumsR l (.slice A n c) w) : n = l.length ∧ InV w A (strV (l.map itoaB)) := by
  obtain ⟨A', e, hr⟩ := h
  injection e with e1 e2 e3
  subst e1
  exact ⟨e2, hr.inV⟩
theorem InV.at {w : World} {g : Nat} {T : TypeId} (vs : List Value) (h : w.heap[g]? = some (.cells vs.toArray T (0, 0))) : InV w (some ⟨g, 0, none⟩) vs := fun h0 =>
  ⟨_, rfl, (Array.getElem?_eq_some_iff.1 h).1, fun i hi => by
    rw [show (⟨g, 0, none⟩ : Addr).add i = ⟨g, i, none⟩ by
      unfold Addr.add
      split
      · next h0 => simp [h0]
      · simp]
    rw [(rcell h).1]
    simp [hi]⟩
theorem num_call {w w0 : World} {g n : Nat} (l : List Int) (hn : n = l.length) (hl : l.length ≤ 1000000) (hi : ∀ x ∈ l, i64In x) (hL : Laid w) (hI : Below w.heap.size w w0) (hg : w0.heap[g]? = some (.cells (intV l).toArray 2 (0, 0))) :
    Calls Tryz.prog 23 #[.slice (some ⟨g, 0, none⟩) n n] w0 fun e w' => ∃ v, e = .returned v ∧ Below w0.heap.size w0 w' ∧ NumsR l v w' := by
  subst hn
  exact (con_numbers (some ⟨g, 0, none⟩) l.length l hl hi w0 (hL.below hI) (InV.at _ hg)).mono fun e w' ⟨h1, h2, h3⟩ => ⟨_, h1, h2, _, rfl, h3⟩
theorem OwnV.at {B g : Nat} {w : World} (vs : List Value) (h : w.heap[g]? = some (.cells vs.toArray 9 (0, 0))) (hB : B ≤ g) (hm : vs.length ≤ 1048576) : OwnV 9 B w (.slice (some ⟨g, 0, none⟩) vs.length vs.length) vs :=
  ⟨by simp, .inr ⟨g, vs.length, vs.toArray, rfl, hB, h, Nat.le_refl _, by unfold maxLen; omega, by simp, by simp⟩⟩
theorem two_in {a b : Int} (h1 : i64In a) (h2 : i64In b) : ∀ x ∈ [a, b], i64In x := by
  intro x hx
  simp only [List.mem_cons, List.mem_nil_iff, or_false] at hx
  rcases hx with rfl | rfl
  · exact h1
  · exact h2
theorem one_in {a : Int} (h1 : i64In a) : ∀ x ∈ [a], i64In x := by
  intro x hx
  simp only [List.mem_cons, List.mem_nil_iff, or_false] at hx
  subst hx
  exact h1
theorem strV_app (a b : List ByteArray) : strV (a ++ b) = strV a ++ strV b := by simp [strV]

theorem size99 : (Tryz.prog.info? 99).map (·.size) = some 2 := by kernel_rfl
/-- the words of what is done to a name -/
def cMut (mkd : Int) (nm : ByteArray) (e f s : Int) (pts : List (Int × Int)) : List ByteArray :=
  if mkd = 1 then [wCreate, nm, itoaB e, itoaB s] else if mkd = 2 then [wDrop, nm] else if mkd = 3 then [wAppend, nm] ++ pts.flatMap (fun p => [itoaB p.1, itoaB p.2]) else if mkd = 4 then [wRetain, nm, itoaB f] else []

set_option maxRecDepth 100000 in
set_option maxHeartbeats 8000000 in
theorem con_mutation (mkd : Int) (nm : ByteArray) (e f s : Int) (he : i64In e) (hf : i64In f) (hs : i64In s) (A : Option Addr) (c : Nat) (pts : List (Int × Int)) (hp : ∀ p ∈ pts, i64In p.1 ∧ i64In p.2) (hpl : pts.length ≤ 1000) (w : World) (hL : Laid w) (hA : InV w A (ptsV pts)) :
    Calls Tryz.prog 73 #[.agg #[.int .i64 mkd, .string nm, .int .i64 e, .int .i64 f, .int .i64 s, .slice A pts.length c]] w fun e' w' => ∃ v, e' = .returned v ∧ RowsS w' v (cMut mkd nm e f s pts) ∧ Below w.heap.size w w' := by
  obtain ⟨R, hR⟩ : ∃ R, R = cMut mkd nm e f s pts := ⟨_, rfl⟩
  rw [← hR]
  unfold cMut at hR
  have HR := hide hR
  clear hR
  obtain ⟨pn, hpn⟩ : ∃ pn, pn = pts.length := ⟨_, rfl⟩
  rw [← hpn]
  have HPN := hide hpn
  have hpn2 : pn ≤ 1000 := by omega
  have HA := hide (fun W (hb : Below w.heap.size w W) => hA.below hb)
  have HL := hide (fun W (hb : Below w.heap.size w W) => hL.below hb)
  have HE := hide he
  have HF := hide hf
  have HS := hide hs
  have HP := hide hp
  clear hL hA he hf hs hp hpn
  by_cases h1 : mkd = 1
  · subst h1
    have hR := HR.out
    rw [if_pos rfl] at hR
    have HR := hide hR
    clear hR
    go_enter Tryz.func73, Tryz.ntmps73
    go_wp2_with fail
    have fb := na w #[.int .i64 1, .string nm, .int .i64 e, .int .i64 f, .int .i64 s, .slice A pn c] 24
    have hb1 := bA (b0 w) (.cells #[.int .i64 1, .string nm, .int .i64 e, .int .i64 f, .int .i64 s, .slice A pn c] 24)
    generalize w.alloc (.cells #[.int .i64 1, .string nm, .int .i64 e, .int .i64 f, .int .i64 s, .slice A pn c] 24) = w1 at *
    have HB := hide hb1
    have HL1 := hide (HL.out _ hb1)
    clear hb1
    refine Abs.wp_region_tail (Abs.cls0 _) [3, 4, 5, 6, 7, 8, 0, 1, 2] 9 (by kernel_rfl) (by kernel_rfl) (Below.refl _ _).drew ?_
    (refine Abs.step_pure rfl rfl (fun K hK => ?_); go_simp; (try go_bits); (first | refine hK _ _ ?_ | (simp only [↓IntWalk.iteOmega]; go_simp; (try go_bits); refine hK _ _ ?_)); clear hK K)
    (refine Abs.step_load (v := ?_) rfl rfl (by kernel_rfl) rfl (fun w0 hI => ?_) (fun K hK => ?_); rotate_left; (· have z0 := (rcell (kp hI (fb))).1; go_simp; rfl); (simp only [Act.put, List.setIfInBounds_toArray, List.set_cons_zero, List.set_cons_succ]; refine hK _ _ ?_; clear hK K))
    (refine Abs.step_pure rfl rfl (fun K hK => ?_); go_simp; (try go_bits); (first | refine hK _ _ ?_ | (simp only [↓IntWalk.iteOmega]; go_simp; (try go_bits); refine hK _ _ ?_)); clear hK K)
    (refine Abs.step_load (v := ?_) rfl rfl (by kernel_rfl) rfl (fun w0 hI => ?_) (fun K hK => ?_); rotate_left; (· have z0 := (rcell (kp hI (fb))).1; go_simp; rfl); (simp only [Act.put, List.setIfInBounds_toArray, List.set_cons_zero, List.set_cons_succ]; refine hK _ _ ?_; clear hK K))
    (refine Abs.step_new (f := fun g => .slice (some ⟨g, 0, none⟩) 2 2) (obj := .cells #[.int .i64 e, .int .i64 s] 2) rfl rfl rfl rfl (fun w0 => ?_) (fun K hK g_i hv_i hu_i => ?_); (· go_simp; try rfl); (simp only [Act.put, List.setIfInBounds_toArray, List.set_cons_zero, List.set_cons_succ]; refine hK _ _ ?_; clear hK K))
    (refine Abs.step_call (f := ?_) (args := ?_) rfl rfl rfl rfl (NumsR [e, s]) (fun _ => Cl_NumsR _) (fun w0 => ?_) (fun w0 hI hF => ?_) (fun K hK v w0 hv => ?_); rotate_left 2; (· go_simp; (constructor <;> rfl)); (· exact num_call [e, s] rfl (by simp) (two_in HE.out HS.out) HL1.out hI ((hF 7 (by kernel_rfl)).2 rfl)); (obtain ⟨A9, rfl, -⟩ := hv; clear w0; simp only [Act.put, List.setIfInBounds_toArray, List.set_cons_zero, List.set_cons_succ]; refine hK _ _ ?_; clear hK K))
    (refine Abs.step_pure rfl rfl (fun K hK => ?_); go_simp; (try go_bits); (first | refine hK _ _ ?_ | (simp only [↓IntWalk.iteOmega]; go_simp; (try go_bits); refine hK _ _ ?_)); clear hK K)
    (refine Abs.step_load (v := ?_) rfl rfl (by kernel_rfl) rfl (fun w0 hI => ?_) (fun K hK => ?_); rotate_left; (· have z0 := (rcell (kp hI (fb))).1; go_simp; rfl); (simp only [Act.put, List.setIfInBounds_toArray, List.set_cons_zero, List.set_cons_succ]; refine hK _ _ ?_; clear hK K))
    (refine Abs.step_new (f := fun g => .slice (some ⟨g, 0, none⟩) 2 2) (obj := .cells #[.string wCreate, .string nm] 9) rfl rfl rfl rfl (fun w0 => ?_) (fun K hK g_s hv_s hu_s => ?_); (· go_simp; try rfl); (simp only [Act.put, List.setIfInBounds_toArray, List.set_cons_zero, List.set_cons_succ]; refine hK _ _ ?_; clear hK K))
    intro w0 hI hF hx1 hx2
    have q1 := (hF 2).2 rfl
    have q2 := (hF 8).1.2 rfl
    clear hx1 hx2 hF
    simp only [Abs.T_setF, Abs.T_addA, Abs.T_push, Abs.T_start, List.drop_succ_cons, List.drop_zero]
    have HO := hide (OwnV.at [.string wCreate, .string nm] q1 hv_s (by simp))
    have HN := hide q2.inV.2
    have hsz : (w1.heap.size : Nat) ≤ w0.heap.size := hI.size
    have HB0 := hide (bB HB.out hI)
    clear q1 q2 hI hv_s hu_s hv_i hu_i
    go_wp2_with (refine wpList_pushV rfl _ _ _ rfl 16 Tryz.underlying66 str_info rfl (by decide) w1.heap.size _ _ (strV [itoaB e, itoaB s]) _ _ rfl rfl HO.out HN.out (strV_one _) (by simp [strV]) hsz ?_; intro v' w3 hO3 hlow hsz3)
    go_ret
    refine ⟨_, rfl, ?_, HB0.out.trans ((hlow _ (Below.refl _ _)).mono (HB.out.size))⟩
    rw [HR.out]
    exact RowsS.of (ss := [wCreate, nm, itoaB e, itoaB s]) hO3
  rw [if_neg h1] at HR
  have m1 : (mkd == 1) = false := beq_eq_false_iff_ne.2 h1
  have m1' : decide (mkd = 1) = false := decide_eq_false h1
  by_cases h2 : mkd = 2
  · subst h2
    have hR := HR.out
    rw [if_pos rfl] at hR
    have HR := hide hR
    clear hR
    have hb2 := bA (bA (b0 w) (.cells #[.int .i64 2, .string nm, .int .i64 e, .int .i64 f, .int .i64 s, .slice A pn c] 24)) (.cells #[.string wDrop, .string nm] 9)
    have hO : RowsS ((w.alloc (.cells #[.int .i64 2, .string nm, .int .i64 e, .int .i64 f, .int .i64 s, .slice A pn c] 24)).alloc (.cells #[.string wDrop, .string nm] 9)) (.slice (some ⟨(w.alloc (.cells #[.int .i64 2, .string nm, .int .i64 e, .int .i64 f, .int .i64 s, .slice A pn c] 24)).heap.size, 0, none⟩) 2 2) [wDrop, nm] := RowsS.of (B := w.heap.size) (OwnV.built (w.alloc (.cells #[.int .i64 2, .string nm, .int .i64 e, .int .i64 f, .int .i64 s, .slice A pn c] 24)) [.string wDrop, .string nm] (by simp) (by simp))
    simp only [World.size_alloc] at hO
    have HO := hide hO
    have HB2 := hide hb2
    clear hO hb2
    go_enter Tryz.func73, Tryz.ntmps73
    go_wp2_with fail
    go_ret
    exact ⟨_, rfl, by rw [HR.out]; exact HO.out, HB2.out⟩
  rw [if_neg h2] at HR
  have m2 : (mkd == 2) = false := beq_eq_false_iff_ne.2 h2
  have m2' : decide (mkd = 2) = false := decide_eq_false h2
  by_cases h3 : mkd = 3
  · subst h3
    have hR := HR.out
    rw [if_pos rfl] at hR
    have HR3 := hide hR
    clear hR HR
    have hb2 := bA (bA (b0 w) (.cells #[.int .i64 3, .string nm, .int .i64 e, .int .i64 f, .int .i64 s, .slice A pn c] 24)) (.cells #[.string wAppend, .string nm] 9)
    have hO : OwnV 9 w.heap.size ((w.alloc (.cells #[.int .i64 3, .string nm, .int .i64 e, .int .i64 f, .int .i64 s, .slice A pn c] 24)).alloc (.cells #[.string wAppend, .string nm] 9)) (.slice (some ⟨(w.alloc (.cells #[.int .i64 3, .string nm, .int .i64 e, .int .i64 f, .int .i64 s, .slice A pn c] 24)).heap.size, 0, none⟩) 2 2) (strV [wAppend, nm]) := OwnV.built (w.alloc (.cells #[.int .i64 3, .string nm, .int .i64 e, .int .i64 f, .int .i64 s, .slice A pn c] 24)) [.string wAppend, .string nm] (by simp) (by simp)
    simp only [World.size_alloc] at hO
    have fr := kp (bA (b0 _) (.cells #[.string wAppend, .string nm] 9)) (na w #[.int .i64 3, .string nm, .int .i64 e, .int .i64 f, .int .i64 s, .slice A pn c] 24)
    have z1 := (rcell fr).1
    have HO := hide hO
    have HB2 := hide hb2
    clear hO hb2 fr m1 m1' m2 m2' h1 h2
    go_enter Tryz.func73, Tryz.ntmps73
    go_wp2_with fail
    clear z1
    go_loopw [3, 33] (fun v3 v33 wr => ∃ k : Nat, v33 = .int .i64 (k : Int) ∧ k ≤ pn ∧ Hid (OwnV 9 w.heap.size wr v3 (strV ([wAppend, nm] ++ (pts.take k).flatMap (fun p => [itoaB p.1, itoaB p.2])))) ∧ Hid (Below w.heap.size w wr)) (fun _ v33 _ => pn - (intOf v33).toNat)
    case atStart => exact ⟨0, rfl, by omega, by simp only [List.take_zero, List.flatMap_nil, List.append_nil]; exact HO, HB2⟩
    case round =>
      obtain ⟨k, rfl, hk, HOk, HBr⟩ := hrel
      by_cases hlt : k < pn
      · have e1 : decide ((k : Int) < (pn : Int)) = true := decide_eq_true (by omega)
        have hk1 : k < pts.length := by have := HPN.out; omega
        have hAr := HA.out wr HBr.out
        obtain ⟨adA, rfl, -, -⟩ := hAr (by have := ptsV_len pts; omega)
        obtain ⟨c1, c2⟩ := pts_cells hAr (b0 wr) k hk1
        have hpi := HP.out _ (List.getElem_mem hk1)
        have HW : Hid (strV ([wAppend, nm] ++ (pts.take (k + 1)).flatMap (fun p => [itoaB p.1, itoaB p.2])) = strV ([wAppend, nm] ++ (pts.take k).flatMap (fun p => [itoaB p.1, itoaB p.2])) ++ strV [itoaB pts[k].1, itoaB pts[k].2]) := hide (by
          rw [← strV_app, List.take_succ_eq_append_getElem hk1, List.flatMap_append, ← List.append_assoc]; simp)
        have HLN : Hid ((strV ([wAppend, nm] ++ (pts.take k).flatMap (fun p => [itoaB p.1, itoaB p.2]))).length ≤ 4000) := hide (by
          have h : ∀ l : List (Int × Int), (l.flatMap (fun p => [itoaB p.1, itoaB p.2])).length = 2 * l.length := fun l => by
            induction l with
            | nil => rfl
            | cons p l ih => simp only [List.flatMap_cons, List.length_append, List.length_cons, List.length_nil, ih]; omega
          rw [strV_len, List.length_append, h, List.length_take]
          simp only [List.length_cons, List.length_nil]
          omega)
        obtain ⟨x, hx⟩ : ∃ x, x = pts[k].1 := ⟨_, rfl⟩
        obtain ⟨y, hy⟩ : ∃ y, y = pts[k].2 := ⟨_, rfl⟩
        rw [← hx, ← hy] at hpi HW
        rw [← hx] at c1
        rw [← hy] at c2
        have HPI := hide hpi
        clear hx hy hk1 hAr hpi
        go_wp2_with (refine wpList_storeW rfl _ _ _ rfl wr.heap.size 99 _ #[.int .i64 x, .int .i64 y] rfl rfl (na wr _ 99) size99 rfl (by simp [Value.oneCell']) ?_; simp only [Act.put]; generalize hT4 : setRow _ _ _ = w4; obtain ⟨hx4, g4⟩ := fin_x (b0 _) (na wr #[.int .i64 0, .int .i64 0] 99) hT4; have HB4 := hide (bX (bA (b0 wr) (.cells #[.int .i64 0, .int .i64 0] 99)) hx4 (Nat.le_refl _)); have z4 := (rcell g4).1; clear hT4 hx4 c1 c2)
        clear z4
        refine (con_nums [x, y] (by simp) (two_in HPI.out.1 HPI.out.2) _ 2 _ w4 rfl rfl rfl (HL.out _ (bB HBr.out HB4.out))).mono ?_
        rintro e' w5 ⟨A5, rfl, hb5, hr5⟩
        have HB5 := hide (bB HB4.out (bB (bA (b0 w4) (.cells #[.int .i64 x, .int .i64 y] 2)) hb5))
        have HO5 := hide (HOk.out.lift HB5.out)
        have HI5 := hide hr5.inV
        have hs5 : w.heap.size ≤ w5.heap.size := (bB HBr.out HB5.out).size
        clear hb5 hr5
        go_wp2_with (refine wpList_pushV rfl _ _ _ rfl 16 Tryz.underlying66 str_info rfl (by decide) w.heap.size _ _ (strV [itoaB x, itoaB y]) _ _ rfl rfl HO5.out HI5.out (strV_one _) (by have := HLN.out; simp only [strV_len, List.length_cons, List.length_nil] at this ⊢; omega) hs5 ?_; intro v6 w6 hO6 hlow6 hsz6)
        have HB6 := hide (hlow6 w (bB HBr.out HB5.out))
        have HO6 := hide hO6
        clear hlow6 hO6
        go_roundw
        case rel => exact ⟨k + 1, by go_num, by omega, hide (by rw [HW.out]; exact HO6.out), HB6⟩
        case measure => simp [intOf]; omega
      · have e1 : decide ((k : Int) < (pn : Int)) = false := decide_eq_false (by omega)
        have HE2 : Hid (R = [wAppend, nm] ++ (pts.take k).flatMap (fun p => [itoaB p.1, itoaB p.2])) := hide (by rw [HR3.out, List.take_of_length_le (by have := HPN.out; omega)])
        go_wp2_with fail
        go_ret
        exact ⟨_, rfl, by rw [HE2.out]; exact RowsS.of HOk.out, HBr.out⟩
  rw [if_neg h3] at HR
  have m3 : (mkd == 3) = false := beq_eq_false_iff_ne.2 h3
  have m3' : decide (mkd = 3) = false := decide_eq_false h3
  by_cases h4 : mkd = 4
  · subst h4
    have hR := HR.out
    rw [if_pos rfl] at hR
    have HR := hide hR
    clear hR
    go_enter Tryz.func73, Tryz.ntmps73
    go_wp2_with fail
    have fb := na w #[.int .i64 4, .string nm, .int .i64 e, .int .i64 f, .int .i64 s, .slice A pn c] 24
    have hb1 := bA (b0 w) (.cells #[.int .i64 4, .string nm, .int .i64 e, .int .i64 f, .int .i64 s, .slice A pn c] 24)
    generalize w.alloc (.cells #[.int .i64 4, .string nm, .int .i64 e, .int .i64 f, .int .i64 s, .slice A pn c] 24) = w1 at *
    have HB := hide hb1
    have HL1 := hide (HL.out _ hb1)
    clear hb1
    refine Abs.wp_region_tail (Abs.cls0 _) [3, 4, 5, 6, 0, 1, 2] 7 (by kernel_rfl) (by kernel_rfl) (Below.refl _ _).drew ?_
    (refine Abs.step_pure rfl rfl (fun K hK => ?_); go_simp; (try go_bits); (first | refine hK _ _ ?_ | (simp only [↓IntWalk.iteOmega]; go_simp; (try go_bits); refine hK _ _ ?_)); clear hK K)
    (refine Abs.step_load (v := ?_) rfl rfl (by kernel_rfl) rfl (fun w0 hI => ?_) (fun K hK => ?_); rotate_left; (· have z0 := (rcell (kp hI (fb))).1; go_simp; rfl); (simp only [Act.put, List.setIfInBounds_toArray, List.set_cons_zero, List.set_cons_succ]; refine hK _ _ ?_; clear hK K))
    (refine Abs.step_new (f := fun g => .slice (some ⟨g, 0, none⟩) 1 1) (obj := .cells #[.int .i64 f] 2) rfl rfl rfl rfl (fun w0 => ?_) (fun K hK g_i hv_i hu_i => ?_); (· go_simp; try rfl); (simp only [Act.put, List.setIfInBounds_toArray, List.set_cons_zero, List.set_cons_succ]; refine hK _ _ ?_; clear hK K))
    (refine Abs.step_call (f := ?_) (args := ?_) rfl rfl rfl rfl (NumsR [f]) (fun _ => Cl_NumsR _) (fun w0 => ?_) (fun w0 hI hF => ?_) (fun K hK v w0 hv => ?_); rotate_left 2; (· go_simp; (constructor <;> rfl)); (· exact num_call [f] rfl (by simp) (one_in HF.out) HL1.out hI ((hF 5 (by kernel_rfl)).2 rfl)); (obtain ⟨A9, rfl, -⟩ := hv; clear w0; simp only [Act.put, List.setIfInBounds_toArray, List.set_cons_zero, List.set_cons_succ]; refine hK _ _ ?_; clear hK K))
    (refine Abs.step_pure rfl rfl (fun K hK => ?_); go_simp; (try go_bits); (first | refine hK _ _ ?_ | (simp only [↓IntWalk.iteOmega]; go_simp; (try go_bits); refine hK _ _ ?_)); clear hK K)
    (refine Abs.step_load (v := ?_) rfl rfl (by kernel_rfl) rfl (fun w0 hI => ?_) (fun K hK => ?_); rotate_left; (· have z0 := (rcell (kp hI (fb))).1; go_simp; rfl); (simp only [Act.put, List.setIfInBounds_toArray, List.set_cons_zero, List.set_cons_succ]; refine hK _ _ ?_; clear hK K))
    (refine Abs.step_new (f := fun g => .slice (some ⟨g, 0, none⟩) 2 2) (obj := .cells #[.string wRetain, .string nm] 9) rfl rfl rfl rfl (fun w0 => ?_) (fun K hK g_s hv_s hu_s => ?_); (· go_simp; try rfl); (simp only [Act.put, List.setIfInBounds_toArray, List.set_cons_zero, List.set_cons_succ]; refine hK _ _ ?_; clear hK K))
    intro w0 hI hF hx1 hx2
    have q1 := (hF 2).2 rfl
    have q2 := (hF 6).1.2 rfl
    clear hx1 hx2 hF
    simp only [Abs.T_setF, Abs.T_addA, Abs.T_push, Abs.T_start, List.drop_succ_cons, List.drop_zero]
    have HO := hide (OwnV.at [.string wRetain, .string nm] q1 hv_s (by simp))
    have HN := hide q2.inV.2
    have hsz : (w1.heap.size : Nat) ≤ w0.heap.size := hI.size
    have HB0 := hide (bB HB.out hI)
    clear q1 q2 hI hv_s hu_s hv_i hu_i
    go_wp2_with (refine wpList_pushV rfl _ _ _ rfl 16 Tryz.underlying66 str_info rfl (by decide) w1.heap.size _ _ (strV [itoaB f]) _ _ rfl rfl HO.out HN.out (strV_one _) (by simp [strV]) hsz ?_; intro v' w3 hO3 hlow hsz3)
    go_ret
    refine ⟨_, rfl, ?_, HB0.out.trans ((hlow _ (Below.refl _ _)).mono (HB.out.size))⟩
    rw [HR.out]
    exact RowsS.of (ss := [wRetain, nm, itoaB f]) hO3
  · rw [if_neg h4] at HR
    have m4 : (mkd == 4) = false := beq_eq_false_iff_ne.2 h4
    have m4' : decide (mkd = 4) = false := decide_eq_false h4
    have hb := bA (b0 w) (.cells #[.int .i64 mkd, .string nm, .int .i64 e, .int .i64 f, .int .i64 s, .slice A pn c] 24)
    go_enter Tryz.func73, Tryz.ntmps73
    go_wp2_with fail
    go_ret
    exact ⟨_, rfl, by rw [HR.out]; exact RowsS.nil _, hb⟩
end Go.Proofs.YtlnonecibpjcoaaGreatDoor

namespace Go.Proofs.YtlnonecibpjcoaaGreatDoor
open Go.RowKit
attribute [local go_sem] Oper.semAt_some

/-- the words of what is asked -/
def cAsk (k : Int) (nm : ByteArray) (a b wh N : Int) : List ByteArray :=
  if k < 1 ∨ 8 < k then [] else if k = 6 then [rWhatB 6, nm, itoaB a] else if k = 8 then (if wh < 1 ∨ 5 < wh then [] else [rWhatB 8, nm, rWhatB wh.toNat, itoaB a, itoaB b, itoaB N]) else [rWhatB k.toNat, nm, itoaB a, itoaB b]
theorem exec_indexX {ρ : Operand → Value} {o : Oper} {t : TypeId} {x y : Operand} {v : Value} {w : World} (ho : o.op = .index t x y) (h : (Instr.index t (ρ x) (ρ y)).run Tryz.prog w = .ok v w) : (execOp ρ o).run Tryz.prog w = .ok (.value v) w := by
  unfold execOp
  simp only [ho, Sem.run_bind, Sem.run_pure, Result.andThen_ok]
  rw [h]
  rfl
theorem what_index (k : Nat) (hk : k ≤ 8) (w : World) : (Instr.index 141 (.agg (strV whatL).toArray) (.int .i64 (k : Int))).run Tryz.prog w = .ok (.string (rWhatB k)) w := by
  obtain rfl | rfl | rfl | rfl | rfl | rfl | rfl | rfl | rfl : k = 0 ∨ k = 1 ∨ k = 2 ∨ k = 3 ∨ k = 4 ∨ k = 5 ∨ k = 6 ∨ k = 7 ∨ k = 8 := by omega
  all_goals kernel_rfl
theorem three_in {a b c : Int} (h1 : i64In a) (h2 : i64In b) (h3 : i64In c) : ∀ x ∈ [a, b, c], i64In x := by
  intro x hx
  simp only [List.mem_cons, List.mem_nil_iff, or_false] at hx
  rcases hx with rfl | rfl | rfl
  · exact h1
  · exact h2
  · exact h3

theorem Cl_OwnV {B : Nat} {v : Value} {l : List Value} : Abs.Cl (fun _ => False) (fun w => OwnV 9 B w v l) := by
  intro w w' h hr
  obtain ⟨h1, h2⟩ := h
  refine ⟨h1, ?_⟩
  rcases h2 with h2 | ⟨g, cap, cur, h3, h4, h5, h6⟩
  · exact .inl h2
  · exact .inr ⟨g, cap, cur, h3, h4, (hr.block g (Array.getElem?_eq_some_iff.1 h5).1 (fun hf => hf)).trans h5, h6⟩
/-- append onto a row that is full: a new row, as one step of a region that draws its order -/
theorem step_grow {W : World} {ops : List Oper} {Q : Act → Abs.St → Prop} {rest : List Nat} {i : Nat} {o : Oper} {a : Act} {s : Abs.St} (ho : ops[i]? = some o) (hw : Region.wanted o (yielded ops.toArray a.tmps) = true) (hk : Abs.kindOf o = .k) (ht : s.t = false)
    (x y : Operand) (hop : o.op = .call { callee := .builtin .append, args := #[x, y], argTypes := #[66, 66] }) (l m : List Value) (g g2 n k c : Nat) (hx : a.eval x = .slice (some ⟨g, 0, none⟩) n n) (hn : n = l.length) (hy : a.eval y = .slice (some ⟨g2, 0, none⟩) k c) (hkm : k = m.length) (h0 : 0 < m.length) (hlen : l.length + m.length ≤ 1048576)
    (hc : ∀ w, Below W.heap.size W w → (∀ j, Abs.reach ops.toArray i j = true → s.F j w) → w.heap[g]? = some (.cells l.toArray 9 (0, 0)) ∧ w.heap[g2]? = some (.cells m.toArray 9 (0, 0)))
    (h2 : ∀ K : Act → Abs.St → Prop, (∀ a s, Abs.wpOrd Tryz.prog ops.toArray (Abs.cls0 W) Q rest a s → K a s) → ∀ v w, OwnV 9 W.heap.size w v (l ++ m) → K (a.put o.dst v) (s.setF i (fun w => OwnV 9 W.heap.size w v (l ++ m)))) : Abs.wpOrd Tryz.prog ops.toArray (Abs.cls0 W) Q (i :: rest) a s := by
  subst hn hkm
  refine Abs.step_does0 ho (.inr (.inl ⟨hw, hk, ht, fun v w => OwnV 9 W.heap.size w v (l ++ m), fun v => Cl_OwnV, fun w hI hF => ?_, fun v hg => ?_⟩))
  · obtain ⟨c1, c2⟩ := hc w hI hF
    obtain ⟨i0, hi0, hz0, hz1, hz2⟩ := info_parts str_info
    have k1 : ∀ j u, l[j]? = some u → w.cell? ((⟨g, 0, none⟩ : Addr).add j) = some u := fun j u hu => by
      rw [show (⟨g, 0, none⟩ : Addr).add j = ⟨g, j, none⟩ by
        unfold Addr.add
        split
        · next h0 => simp [h0]
        · simp]
      rw [(rcell c1).1]; simpa using hu
    have k2 : ∀ j u, m[j]? = some u → w.cell? ((⟨g2, 0, none⟩ : Addr).add j) = some u := fun j u hu => by
      rw [show (⟨g2, 0, none⟩ : Addr).add j = ⟨g2, j, none⟩ by
        unfold Addr.add
        split
        · next h0 => simp [h0]
        · simp]
      rw [(rcell c2).1]; simpa using hu
    obtain ⟨v', w', hrun, hown, hgr⟩ := run_append_arg_grows (P := Tryz.prog) (w := w) 66 o.type 9 i0 (.string ByteArray.empty) 1 16 Tryz.underlying66 hi0 hz0 hz1 hz2 rfl (by decide) ⟨g, 0, none⟩ l.length l.length l (by omega) k1 ⟨g2, 0, none⟩ m.length c m (by omega) k2 (by omega) (by simp only [maxLen]; omega) (by omega)
    unfold Abs.nonq
    have he : (execOp a.eval o).run Tryz.prog w = .ok (.value v') w' := by
      unfold execOp
      simp only [hop, resolve, invoke, builtin, Sem.run_bind, Sem.run_pure, Result.andThen_ok, List.map_toArray, List.map_cons, List.map_nil, hx, hy]
      rw [hrun]
      rfl
    rw [he]
    obtain ⟨r1, r2, r3, r4, r5⟩ := hgr
    refine ⟨⟨r1, r2, r3, r4, fun k hk _ => r5 k hk (by intro e; cases e)⟩, ?_⟩
    obtain ⟨o1, o2⟩ := hown
    refine ⟨by simp, ?_⟩
    rcases o2 with ⟨rfl, e⟩ | ⟨b, cap, cur, rfl, hb, hg, hn, hm, hs, ht⟩
    · exfalso; omega
    · exact .inr ⟨b, cap, cur, by rw [List.length_append], Nat.le_trans hI.size hb, hg, by rw [List.length_append]; exact hn, hm, hs, by simpa using ht⟩
  · obtain ⟨⟨w, _, w0, _, hF, _⟩, _⟩ := hg
    exact h2 _ (fun _ _ h => h) v w0 ((hF i).2 rfl)

set_option maxRecDepth 100000 in
set_option maxHeartbeats 16000000 in
theorem con_ask (k : Int) (nm : ByteArray) (a b wh N : Int) (ha : i64In a) (hb : i64In b) (hN : i64In N) (w : World) (hL : Laid w) :
    Calls Tryz.prog 74 #[.agg #[.int .i64 k, .string nm, .int .i64 a, .int .i64 b, .int .i64 wh, .int .i64 N]] w fun e' w' => ∃ v, e' = .returned v ∧ RowsS w' v (cAsk k nm a b wh N) ∧ Below w.heap.size w w' := by
  obtain ⟨R, hR⟩ : ∃ R, R = cAsk k nm a b wh N := ⟨_, rfl⟩
  rw [← hR]
  unfold cAsk at hR
  have HL := hide (fun W (hb : Below w.heap.size w W) => hL.below hb)
  have HA := hide ha
  have HBB := hide hb
  have HNN := hide hN
  have hb1 := bA (b0 w) (.cells #[.int .i64 k, .string nm, .int .i64 a, .int .i64 b, .int .i64 wh, .int .i64 N] 26)
  have fb := na w #[.int .i64 k, .string nm, .int .i64 a, .int .i64 b, .int .i64 wh, .int .i64 N] 26
  have HB1 := hide hb1
  have FB := hide fb
  clear hL ha hb hN hb1 fb
  by_cases hlo : k < 1
  · rw [if_pos (.inl hlo)] at hR
    have HR := hide hR
    have d1 : decide (k < 1) = true := decide_eq_true hlo
    clear hR
    go_enter Tryz.func74, Tryz.ntmps74
    go_wp2_with fail
    go_ret
    exact ⟨_, rfl, by rw [HR.out]; exact RowsS.nil _, HB1.out⟩
  by_cases hhi : 8 < k
  · rw [if_pos (.inr hhi)] at hR
    have HR := hide hR
    have d1 : decide (k < 1) = false := decide_eq_false hlo
    have d2 : decide (8 < k) = true := decide_eq_true hhi
    clear hR
    go_enter Tryz.func74, Tryz.ntmps74
    go_wp2_with fail
    go_ret
    exact ⟨_, rfl, by rw [HR.out]; exact RowsS.nil _, HB1.out⟩
  rw [if_neg (by omega)] at hR
  obtain ⟨kn, rfl⟩ : ∃ kn : Nat, k = (kn : Int) := ⟨k.toNat, by omega⟩
  have hk8 : kn ≤ 8 := by omega
  have d1 : decide ((kn : Int) < 1) = false := decide_eq_false hlo
  have d2 : decide ((8 : Int) < (kn : Int)) = false := decide_eq_false hhi
  have cW := con_whats
  have hIX := what_index kn hk8
  have HIW := hide what_index
  generalize (strV whatL).toArray = Y at *
  obtain ⟨K9, hK9⟩ : ∃ K9, K9 = rWhatB kn := ⟨_, rfl⟩
  rw [← hK9] at hIX
  have HR := hide hR
  have HK := hide hK9
  clear hR hlo hhi hK9
  go_enter Tryz.func74, Tryz.ntmps74
  go_wp2_with fail
  have fb := FB.out
  generalize w.alloc (.cells #[.int .i64 (kn : Int), .string nm, .int .i64 a, .int .i64 b, .int .i64 wh, .int .i64 N] 26) = w1 at *
  clear FB
  refine Abs.wp_region_abs (Abs.cls0 _) [0, 1, 2, 3, 4, 5, 6, 7] (by kernel_rfl) (by kernel_rfl) (Below.refl _ _).drew ?_
  (refine Abs.step_call_val (f := 69) (args := #[]) (v := ?_) rfl rfl rfl rfl (fun w0 => ?_) (fun w0 hI => ?_) (fun K hK => ?_); rotate_left 1; (· first | rfl | (go_simp; done) | (go_simp; rfl)); (· exact cW _); (simp only [Act.put, List.setIfInBounds_toArray, List.set_cons_zero, List.set_cons_succ]; refine hK _ _ ?_; clear hK K))
  (refine Abs.step_pure rfl rfl (fun K hK => ?_); go_simp; (try go_bits); (first | refine hK _ _ ?_ | (simp only [↓IntWalk.iteOmega]; go_simp; (try go_bits); refine hK _ _ ?_)); clear hK K)
  (refine Abs.step_load (v := ?_) rfl rfl (by kernel_rfl) rfl (fun w0 hI => ?_) (fun K hK => ?_); rotate_left; (· have z0 := (rcell (kp hI (fb))).1; go_simp; rfl); (simp only [Act.put, List.setIfInBounds_toArray, List.set_cons_zero, List.set_cons_succ]; refine hK _ _ ?_; clear hK K))
  (refine Abs.step_pure rfl rfl (fun K hK => ⟨.string K9, fun w0 => exec_indexX rfl (hIX w0), ?_⟩); (simp only [Act.put, List.setIfInBounds_toArray, List.set_cons_zero, List.set_cons_succ]; refine hK _ _ ?_; clear hK K))
  (refine Abs.step_pure rfl rfl (fun K hK => ?_); go_simp; (try go_bits); (first | refine hK _ _ ?_ | (simp only [↓IntWalk.iteOmega]; go_simp; (try go_bits); refine hK _ _ ?_)); clear hK K)
  (refine Abs.step_load (v := ?_) rfl rfl (by kernel_rfl) rfl (fun w0 hI => ?_) (fun K hK => ?_); rotate_left; (· have z0 := (rcell (kp hI (fb))).1; go_simp; rfl); (simp only [Act.put, List.setIfInBounds_toArray, List.set_cons_zero, List.set_cons_succ]; refine hK _ _ ?_; clear hK K))
  (refine Abs.step_new (f := fun g => .slice (some ⟨g, 0, none⟩) 2 2) (obj := .cells #[.string K9, .string nm] 9) rfl rfl rfl rfl (fun w0 => ?_) (fun K hK g_s hv_s hu_s => ?_); (· go_simp; try rfl); (simp only [Act.put, List.setIfInBounds_toArray, List.set_cons_zero, List.set_cons_succ]; refine hK _ _ ?_; clear hK K))
  (refine Abs.step_pure rfl rfl (fun K hK => ?_); go_simp; (try go_bits); (first | refine hK _ _ ?_ | (simp only [↓IntWalk.iteOmega]; go_simp; (try go_bits); refine hK _ _ ?_)); clear hK K)
  intro w2 hI hF hx1 hx2
  have q1 := (hF 6).2 rfl
  clear hx1 hx2 hF
  simp only [Abs.T_setF, Abs.T_addA, Abs.T_push, Abs.T_start]
  have HO2 := hide (OwnV.at (B := w1.heap.size) [.string K9, .string nm] q1 hv_s (by simp))
  have FSx := hide q1
  have f2 := kp hI fb
  have HB2 := hide (bB HB1.out hI)
  have hs2 := hI.size
  have hw1 := HB1.out.size
  clear q1 hI hv_s hu_s hIX fb
  by_cases h6 : kn = 6
  · subst h6
    have hR := HR.out
    rw [if_pos (show ((6 : Nat) : Int) = 6 from rfl)] at hR
    have HR6 := hide hR
    clear hR
    obtain ⟨z1, z2, z3⟩ := rcell f2
    go_wp2_with fail
    clear z1 z2 z3
    refine (con_nums [a] (by simp) (one_in HA.out) _ 1 _ w2 rfl rfl rfl (HL.out _ HB2.out)).mono ?_
    rintro e' w5 ⟨A5, rfl, hb5, hr5⟩
    have HB5 := hide (bB HB2.out (bB (bA (b0 w2) (.cells #[.int .i64 a] 2)) hb5))
    have HO5 := hide (HO2.out.lift (bB (bA (b0 w2) (.cells #[.int .i64 a] 2)) hb5))
    have HI5 := hide hr5.inV
    have hs5 : w1.heap.size ≤ w5.heap.size := Nat.le_trans hs2 (bB (bA (b0 w2) (.cells #[.int .i64 a] 2)) hb5).size
    clear hb5 hr5
    go_wp2_with (refine wpList_pushV rfl _ _ _ rfl 16 Tryz.underlying66 str_info rfl (by decide) w1.heap.size _ _ (strV [itoaB a]) _ _ rfl rfl HO5.out HI5.out (strV_one _) (by simp [strV]) hs5 ?_; intro v6 w6 hO6 hlow6 hsz6)
    go_ret
    refine ⟨_, rfl, ?_, HB5.out.trans ((hlow6 _ (Below.refl _ _)).mono hw1)⟩
    rw [HR6.out, ← HK.out]
    exact RowsS.of (ss := [K9, nm, itoaB a]) hO6
  · have m1 : ((kn : Int) == 6) = false := beq_eq_false_iff_ne.2 (by omega)
    have m2 : decide ((kn : Int) = 6) = false := decide_eq_false (by omega)
    have hR := HR.out
    rw [if_neg (by omega)] at hR
    by_cases h8 : kn = 8
    · subst h8
      rw [if_pos (show ((8 : Nat) : Int) = 8 from rfl)] at hR
      have HR8 := hide hR
      clear hR HR
      by_cases hwl : wh < 1
      · have d3 : decide (wh < 1) = true := decide_eq_true hwl
        have HR9 := hide (HR8.out.trans (if_pos (.inl hwl)))
        obtain ⟨z1, z2, z3⟩ := rcell f2
        go_wp2_with fail
        go_ret
        exact ⟨_, rfl, by rw [HR9.out]; exact RowsS.nil _, HB2.out⟩
      by_cases hwh : 5 < wh
      · have d3 : decide (wh < 1) = false := decide_eq_false hwl
        have d4 : decide (5 < wh) = true := decide_eq_true hwh
        have HR9 := hide (HR8.out.trans (if_pos (.inr hwh)))
        obtain ⟨z1, z2, z3⟩ := rcell f2
        go_wp2_with fail
        go_ret
        exact ⟨_, rfl, by rw [HR9.out]; exact RowsS.nil _, HB2.out⟩
      have HR9 := hide (HR8.out.trans (if_neg (by omega)))
      obtain ⟨wn, rfl⟩ : ∃ wn : Nat, wh = (wn : Int) := ⟨wh.toNat, by omega⟩
      have d3 : decide ((wn : Int) < 1) = false := decide_eq_false hwl
      have d4 : decide ((5 : Int) < (wn : Int)) = false := decide_eq_false hwh
      have hIY := HIW.out wn (by omega)
      rw [Int.toNat_natCast] at HR9
      obtain ⟨W9, hW9⟩ : ∃ W9, W9 = rWhatB wn := ⟨_, rfl⟩
      rw [← hW9] at hIY HR9
      clear hW9 hwl hwh
      have HL2 := hide (HL.out _ HB2.out)
      obtain ⟨z1, z2, z3⟩ := rcell f2
      go_wp2_with fail
      clear z1 z2 z3
      refine Abs.wp_region_tail (Abs.cls0 _) [0, 1, 2, 3, 4, 5, 6, 7, 8, 9, 10, 11, 12, 13, 14] 15 (by kernel_rfl) (by kernel_rfl) (Below.refl _ _).drew ?_
      (refine Abs.step_pure rfl rfl (fun K hK => ?_); go_simp; (try go_bits); (first | refine hK _ _ ?_ | (simp only [↓IntWalk.iteOmega]; go_simp; (try go_bits); refine hK _ _ ?_)); clear hK K)
      (refine Abs.step_call_val (f := 69) (args := #[]) (v := ?_) rfl rfl rfl rfl (fun w0 => ?_) (fun w0 hI => ?_) (fun K hK => ?_); rotate_left 1; (· first | rfl | (go_simp; done) | (go_simp; rfl)); (· exact cW _); (simp only [Act.put, List.setIfInBounds_toArray, List.set_cons_zero, List.set_cons_succ]; refine hK _ _ ?_; clear hK K))
      (refine Abs.step_pure rfl rfl (fun K hK => ?_); go_simp; (try go_bits); (first | refine hK _ _ ?_ | (simp only [↓IntWalk.iteOmega]; go_simp; (try go_bits); refine hK _ _ ?_)); clear hK K)
      (refine Abs.step_load (v := ?_) rfl rfl (by kernel_rfl) rfl (fun w0 hI => ?_) (fun K hK => ?_); rotate_left; (· have z0 := (rcell (kp hI (f2))).1; go_simp; rfl); (simp only [Act.put, List.setIfInBounds_toArray, List.set_cons_zero, List.set_cons_succ]; refine hK _ _ ?_; clear hK K))
      (refine Abs.step_pure rfl rfl (fun K hK => ⟨.string W9, fun w0 => exec_indexX rfl (hIY w0), ?_⟩); (simp only [Act.put, List.setIfInBounds_toArray, List.set_cons_zero, List.set_cons_succ]; refine hK _ _ ?_; clear hK K))
      (refine Abs.step_new (f := fun g => .slice (some ⟨g, 0, none⟩) 1 1) (obj := .cells #[.string W9] 9) rfl rfl rfl rfl (fun w0 => ?_) (fun K hK g_t hv_t hu_t => ?_); (· go_simp; try rfl); (simp only [Act.put, List.setIfInBounds_toArray, List.set_cons_zero, List.set_cons_succ]; refine hK _ _ ?_; clear hK K))
      (refine step_grow rfl rfl rfl rfl _ _ rfl [.string K9, .string nm] [.string W9] g_s g_t 2 1 1 rfl rfl rfl rfl (by simp) (by simp) (fun w0 hI hF => ⟨kp hI FSx.out, (hF 5 (by kernel_rfl)).2 rfl⟩) (fun K hK v9 w0 hv9 => ?_); clear hv9 w0; (simp only [Act.put, List.setIfInBounds_toArray, List.set_cons_zero, List.set_cons_succ]; refine hK _ _ ?_; clear hK K))
      (refine Abs.step_pure rfl rfl (fun K hK => ?_); go_simp; (try go_bits); (first | refine hK _ _ ?_ | (simp only [↓IntWalk.iteOmega]; go_simp; (try go_bits); refine hK _ _ ?_)); clear hK K)
      (refine Abs.step_load (v := ?_) rfl rfl (by kernel_rfl) rfl (fun w0 hI => ?_) (fun K hK => ?_); rotate_left; (· have z0 := (rcell (kp hI (f2))).1; go_simp; rfl); (simp only [Act.put, List.setIfInBounds_toArray, List.set_cons_zero, List.set_cons_succ]; refine hK _ _ ?_; clear hK K))
      (refine Abs.step_pure rfl rfl (fun K hK => ?_); go_simp; (try go_bits); (first | refine hK _ _ ?_ | (simp only [↓IntWalk.iteOmega]; go_simp; (try go_bits); refine hK _ _ ?_)); clear hK K)
      (refine Abs.step_load (v := ?_) rfl rfl (by kernel_rfl) rfl (fun w0 hI => ?_) (fun K hK => ?_); rotate_left; (· have z0 := (rcell (kp hI (f2))).1; go_simp; rfl); (simp only [Act.put, List.setIfInBounds_toArray, List.set_cons_zero, List.set_cons_succ]; refine hK _ _ ?_; clear hK K))
      (refine Abs.step_pure rfl rfl (fun K hK => ?_); go_simp; (try go_bits); (first | refine hK _ _ ?_ | (simp only [↓IntWalk.iteOmega]; go_simp; (try go_bits); refine hK _ _ ?_)); clear hK K)
      (refine Abs.step_load (v := ?_) rfl rfl (by kernel_rfl) rfl (fun w0 hI => ?_) (fun K hK => ?_); rotate_left; (· have z0 := (rcell (kp hI (f2))).1; go_simp; rfl); (simp only [Act.put, List.setIfInBounds_toArray, List.set_cons_zero, List.set_cons_succ]; refine hK _ _ ?_; clear hK K))
      (refine Abs.step_new (f := fun g => .slice (some ⟨g, 0, none⟩) 3 3) (obj := .cells #[.int .i64 a, .int .i64 b, .int .i64 N] 2) rfl rfl rfl rfl (fun w0 => ?_) (fun K hK g_i hv_i hu_i => ?_); (· go_simp; try rfl); (simp only [Act.put, List.setIfInBounds_toArray, List.set_cons_zero, List.set_cons_succ]; refine hK _ _ ?_; clear hK K))
      (refine Abs.step_call (f := ?_) (args := ?_) rfl rfl rfl rfl (NumsR [a, b, N]) (fun _ => Cl_NumsR _) (fun w0 => ?_) (fun w0 hI hF => ?_) (fun K hK v w0 hv => ?_); rotate_left 2; (· go_simp; (constructor <;> rfl)); (· exact num_call [a, b, N] rfl (by simp) (three_in HA.out HBB.out HNN.out) HL2.out hI ((hF 13 (by kernel_rfl)).2 rfl)); (obtain ⟨A9, rfl, -⟩ := hv; clear w0; simp only [Act.put, List.setIfInBounds_toArray, List.set_cons_zero, List.set_cons_succ]; refine hK _ _ ?_; clear hK K))
      intro w5 hI hF hx1 hx2
      have q5 := (hF 6).1.1.2 rfl
      have q6 := (hF 14).2 rfl
      clear hx1 hx2 hF
      simp only [Abs.T_setF, Abs.T_addA, Abs.T_push, Abs.T_start, List.drop_succ_cons, List.drop_zero]
      have HO5 := hide q5
      have HI5 := hide q6.inV.2
      have hs5 : w2.heap.size ≤ w5.heap.size := hI.size
      have HB5 := hide (bB HB2.out hI)
      have hw2 : w.heap.size ≤ w2.heap.size := HB2.out.size
      clear q5 q6 hI hv_t hu_t hv_i hu_i
      go_wp2_with (refine wpList_pushV rfl _ _ _ rfl 16 Tryz.underlying66 str_info rfl (by decide) w2.heap.size _ _ (strV [itoaB a, itoaB b, itoaB N]) _ _ rfl rfl HO5.out HI5.out (strV_one _) (by simp [strV]) hs5 ?_; intro v6 w6 hO6 hlow6 hsz6)
      go_ret
      refine ⟨_, rfl, ?_, HB5.out.trans ((hlow6 _ (Below.refl _ _)).mono hw2)⟩
      rw [HR9.out]
      have e8 := HK.out
      rw [← e8]
      exact RowsS.of (ss := [K9, nm, W9, itoaB a, itoaB b, itoaB N]) hO6
    · have m3 : ((kn : Int) == 8) = false := beq_eq_false_iff_ne.2 (by omega)
      have m4 : decide ((kn : Int) = 8) = false := decide_eq_false (by omega)
      rw [if_neg (by omega), Int.toNat_natCast, ← HK.out] at hR
      have HR7 := hide hR
      clear hR HR
      obtain ⟨z1, z2, z3⟩ := rcell f2
      go_wp2_with fail
      clear z1 z2 z3
      refine (con_nums [a, b] (by simp) (two_in HA.out HBB.out) _ 2 _ w2 rfl rfl rfl (HL.out _ HB2.out)).mono ?_
      rintro e' w5 ⟨A5, rfl, hb5, hr5⟩
      have HB5 := hide (bB HB2.out (bB (bA (b0 w2) (.cells #[.int .i64 a, .int .i64 b] 2)) hb5))
      have HO5 := hide (HO2.out.lift (bB (bA (b0 w2) (.cells #[.int .i64 a, .int .i64 b] 2)) hb5))
      have HI5 := hide hr5.inV
      have hs5 : w1.heap.size ≤ w5.heap.size := Nat.le_trans hs2 (bB (bA (b0 w2) (.cells #[.int .i64 a, .int .i64 b] 2)) hb5).size
      clear hb5 hr5
      go_wp2_with (refine wpList_pushV rfl _ _ _ rfl 16 Tryz.underlying66 str_info rfl (by decide) w1.heap.size _ _ (strV [itoaB a, itoaB b]) _ _ rfl rfl HO5.out HI5.out (strV_one _) (by simp [strV]) hs5 ?_; intro v6 w6 hO6 hlow6 hsz6)
      go_ret
      refine ⟨_, rfl, ?_, HB5.out.trans ((hlow6 _ (Below.refl _ _)).mono hw1)⟩
      rw [HR7.out]
      exact RowsS.of (ss := [K9, nm, itoaB a, itoaB b]) hO6
end Go.Proofs.YtlnonecibpjcoaaGreatDoor
