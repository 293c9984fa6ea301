/- The document's answer for the console at this program: the command of a line, whatever line. console.Same of two commands that are nothing. ConsoleParses: the walk of the law. -/
import Derived.Test.YtlnonecibpjcoaaGreatDoorPe
import Derived.Test.YtlnonecibpjcoaaGreatDoorPf
import Derived.Test.YtlnonecibpjcoaaGreatDoorKX
import Derived.Test.YtlnonecibpjcoaaGreatDoorRe
import Derived.Test.YtlnonecibpjcoaaGreatDoorPd
set_option linter.unusedSimpArgs false
set_option linter.unnecessarySimpa false
set_option linter.unusedVariables false
set_option linter.unusedSectionVars false
namespace Go.Proofs.YtlnonecibpjcoaaGreatDoor
open Go.RowKit

theorem spl_len : ∀ (l acc : List UInt8), (spl acc l).length ≤ l.length + 1
  | [], acc => by simp [spl]
  | c :: l, acc => by
    have h1 := spl_len l []
    have h2 := spl_len l (acc ++ [c])
    unfold spl
    split <;> simp only [List.length_cons] <;> omega
theorem spl_word : ∀ (l acc : List UInt8) (p : List UInt8), p ∈ spl acc l → p.length ≤ acc.length + l.length
  | [], acc, p, h => by
    simp only [spl, List.mem_singleton] at h
    subst h
    simp
  | c :: l, acc, p, h => by
    unfold spl at h
    split at h
    · rcases List.mem_cons.1 h with rfl | h
      · simp
      · have := spl_word l [] p h
        simp only [List.length_cons, List.length_nil] at this ⊢
        omega
    · have := spl_word l (acc ++ [c]) p h
      simp only [List.length_append, List.length_cons, List.length_nil] at this ⊢
      omega
theorem rW_small {s : ByteArray} (hs : s.size ≤ 10000) {ws : List ByteArray} (h : rW s.data.toList ⟨#[]⟩ [] = some ws) : ws ≠ [] ∧ ws.length ≤ 1000000 ∧ ∀ x ∈ ws, x.size ≤ 1000000 := by
  rw [rW_is] at h
  split at h
  · have hl : s.data.toList.length = s.size := by simp
    simp only [List.nil_append, Option.some.injEq] at h
    subst h
    refine ⟨?_, ?_, ?_⟩
    · intro e
      have e2 := congrArg List.length e
      have h3 : ∀ (l acc : List UInt8), 0 < (spl acc l).length := fun l => by
        induction l with
        | nil => intro acc; simp [spl]
        | cons c l ih => intro acc; unfold spl; split; · simp
                         · exact ih _
      have := h3 s.data.toList []
      simp only [List.length_map, List.length_nil] at e2
      omega
    · have := spl_len s.data.toList []
      rw [List.length_map]
      omega
    · intro x hx
      obtain ⟨p, hp, rfl⟩ := List.mem_map.1 hx
      have := spl_word _ _ p hp
      have e : (toB p).size = p.length := by unfold toB; simp [ByteArray.size]
      simp only [List.length_nil] at this
      have e0 : ((⟨#[]⟩ : ByteArray).data.toList).length = 0 := rfl
      omega
  · cases h

theorem ref_Parse (s : ByteArray) (hs : s.size ≤ 10000) (w : World) : Calls Tryz.prog 11 #[.string s] w (RPq (rLine s) w) := by
  unfold rLine
  cases h : rW s.data.toList ⟨#[]⟩ [] with
  | none => exact ref_Parse_no s (by omega) h w
  | some ws =>
    obtain ⟨hne, hl, hz⟩ := rW_small hs h
    match ws, hne with
    | hd :: l, _ =>
      have hs6 : s.size ≤ 1000000 := by omega
      have hl1 : l.length ≤ 1000000 := by simp only [List.length_cons] at hl; omega
      have hz1 : ∀ x ∈ l, x.size ≤ 1000000 := fun x hx => hz x (List.mem_cons_of_mem _ hx)
      simp only [rCmd]
      by_cases h1 : hd = wSync
      · rw [if_pos h1]; exact ref_Parse_one 2 hd (.inl ⟨rfl, h1⟩) l s hs6 h w
      rw [if_neg h1]
      by_cases h2 : hd = wFlush
      · rw [if_pos h2]; exact ref_Parse_one 3 hd (.inr (.inl ⟨rfl, h2⟩)) l s hs6 h w
      rw [if_neg h2]
      by_cases h3 : hd = wCompact
      · rw [if_pos h3]; exact ref_Parse_one 4 hd (.inr (.inr ⟨rfl, h3⟩)) l s hs6 h w
      rw [if_neg h3]
      by_cases h4 : hd = wPower
      · rw [if_pos h4]; exact ref_Parse_power hd h4 l s hs6 h hl1 hz1 w
      rw [if_neg h4]
      by_cases h5 : hd = wCrash
      · rw [if_pos h5]; exact ref_Parse_crash hd h5 l s hs6 h hl1 hz1 w
      rw [if_neg h5]
      have hb := NoBare.of h1 h2 h3 h4 h5
      match l with
      | [] => exact ref_Parse_alone hd hb s hs6 h w
      | nm :: r =>
        have hl2 : r.length ≤ 1000000 := by simp only [List.length_cons] at hl1; omega
        have hz2 : ∀ x ∈ r, x.size ≤ 1000000 := fun x hx => hz1 x (List.mem_cons_of_mem _ hx)
        by_cases hn : nm.size ≤ 40
        · simp only [if_pos hn]
          by_cases h6 : hd = wRead
          · rw [if_pos h6]; exact ref_Parse_read hd nm r hb (litEq _ h6) hn s hs6 h hz2 w
          rw [if_neg h6]
          have a6 : (hd.toList == ([114, 101, 97, 100] : List UInt8)) = false := litNe _ h6
          by_cases h7 : hd = wBuckets
          · rw [if_pos h7]; exact ref_Parse_buckets hd nm r hb a6 (litEq _ h7) hn s hs6 h hz2 w
          rw [if_neg h7]
          have a7 : (hd.toList == ([98, 117, 99, 107, 101, 116, 115] : List UInt8)) = false := litNe _ h7
          by_cases hk : ∃ k, 1 ≤ k ∧ k ≤ 7 ∧ rWhatB k = hd
          · obtain ⟨k, k1, k7, e⟩ := hk
            exact ref_Parse_asks hd nm r k k1 k7 e hb a6 a7 hn s hs6 h hl2 hz2 w
          have hno : ∀ j, 1 ≤ j → j < 8 → rWhatB j ≠ hd := fun j j1 j8 e => hk ⟨j, j1, by omega, e⟩
          by_cases hc : hd = wCreate
          · exact ref_Parse_create hd nm r hc hno hb a6 a7 hn s hs6 h hl2 hz2 w
          by_cases hd' : hd = wDrop
          · exact ref_Parse_drop hd nm r hd' hno hb a6 a7 hn s hs6 h hl2 hz2 w
          by_cases ha : hd = wAppend
          · exact ref_Parse_append hd nm r ha hno hb a6 a7 hn s hs6 h hl2 hz2 w
          by_cases hr : hd = wRetain
          · exact ref_Parse_retain hd nm r hr hno hb a6 a7 hn s hs6 h hl2 hz2 w
          exact ref_Parse_other hd nm r hc hd' ha hr hno hb a6 a7 hn s hs6 h hl2 hz2 w
        · simp only [if_neg hn]
          exact ref_Parse_wide hd nm r hb hn s hs6 h w
end Go.Proofs.YtlnonecibpjcoaaGreatDoor

namespace Go.Proofs.Tryz
open Go.Proofs.Ex Go.RowKit Go.Proofs.YtlnonecibpjcoaaGreatDoor
theorem sz_run : outB (.bool true) .nil 6 (runA prog xL6 12 [.agg zCmd, .agg zCmd] 4000) = true := by kernel_rfl
theorem same_zero (w : World) (hL : Laid w) : Calls prog 12 #[.agg zCmd, .agg zCmd] w fun e w' => e = .returned (.bool true) ∧ Below w.heap.size w w' :=
  runCalls xfollows xL6_ok sz_run (.cons (Is.closed rfl) (.cons (Is.closed rfl) LIs.nil)) (Is.closed rfl) w ⟨hL, fun k hk => laid_lt hL k hk⟩
end Go.Proofs.Tryz

namespace Go.Proofs.YtlnonecibpjcoaaGreatDoor
open Go.RowKit
attribute [local go_sem] Oper.semAt_some

theorem cutB_size (s : ByteArray) (m : Nat) (h : m ≤ s.size) : (s.extract 0 m).size = m := by simp [ByteArray.size_extract]; omega
theorem InK.inV {w : World} {X : Option Addr} {n k : Nat} {xs : List Value} (h : InK w X n k xs) : InV w X xs := fun h0 => by
  have hl := h.1
  have hn : 0 < n := by
    rcases Nat.eq_zero_or_pos n with e | e
    · subst e; rw [Nat.zero_mul] at hl; omega
    · exact e
  obtain ⟨ad, e, h1, h2⟩ := h.2 hn
  exact ⟨ad, e, h1, fun i hi => by rw [h2 i (by omega), List.getElem?_eq_getElem hi]⟩
theorem ref_SameC {B B2 : Nat} (c : Cm) (A : Option Addr) (ac : Nat) (M : Option Addr) (mc : Nat) (A2 : Option Addr) (ac2 : Nat) (M2 : Option Addr) (mc2 : Nat) (w : World) (h1 : RS 99 2 B w A c.pts.length ac (ptsV c.pts)) (h2 : RS 3 1 B w M c.masks.length mc (intV c.masks)) (h3 : RS 99 2 B2 w A2 c.pts.length ac2 (ptsV c.pts)) (h4 : RS 3 1 B2 w M2 c.masks.length mc2 (intV c.masks)) :
    Calls Tryz.prog 13 #[.agg (c.cs A ac M mc), .agg (c.cs A2 ac2 M2 mc2)] w fun e w' => e = .returned (.bool true) ∧ Below w.heap.size w w' := by
  have b1 := h1.rk.cap
  have b2 := h2.rk.cap
  have b3 := h1.rk.top
  have b4 := h2.rk.top
  exact ref_Same _ _ _ _ _ _ _ _ _ _ _ _ _ _ _ _ _ _ _ _ _ _ _ _ _ _ _ c.masks c.pts rfl rfl (by omega) w h2.rk.inK.inV h4.rk.inK.inV h1.rk.inK.inV h3.rk.inK.inV (by omega)

theorem wpList_want {P : Program} {ops : Array Oper} {Q : Exit → Act → World → Prop} {a : Act} {w : World} {rest : List Oper} {o : Oper} (hw : Region.wanted o (yielded ops a.tmps) = true)
    (h : ∀ K : Act → World → Prop, (∀ a w, wpList P ops Q rest a w → K a w) → o.wp P a w K Q) : wpList P ops Q (o :: rest) a w :=
  wpList_step fun K hK => by rw [if_pos hw]; exact h K hK
theorem wpList_loadG {ops : Array Oper} {rest : List Oper} {o : Oper} {a : Act} {w : World} {Q : Exit → Act → World → Prop} (hgd : Region.wanted o (yielded ops a.tmps) = true) (t : TypeId) (p : Operand)
    (ho : o.op = .load t p) (g : Nat) (T : TypeId) (cs : Array Value) (hp : a.eval p = .pointer (some ⟨g, 0, none⟩))
    (hg : w.heap[g]? = some (.cells cs T (0, 0))) (d : TypeDesc) (hd : d.isRow = true) (hu : Tryz.prog.underlying t = some d) (hi : (Tryz.prog.info? t).map (·.size) = some cs.size)
    (h : wpList Tryz.prog ops Q rest (a.put o.dst (.agg cs)) w) : wpList Tryz.prog ops Q (o :: rest) a w := by
  refine wpList_want hgd fun _ hK => ?_
  unfold Oper.wp execOp
  simp only [ho, hp, Instr.loadAt, Instr.sureAddr, Sem.run_bind, Sem.run_pure, Result.andThen_ok]
  rw [run_loadVar_row w g T t cs (0, 0) d hg hu (by cases d <;> first | rfl | cases hd) hi]
  exact hK _ _ h
theorem wpList_buildG {ops : Array Oper} {rest : List Oper} {o : Oper} {a : Act} {w : World} {Q : Exit → Act → World → Prop} (hgd : Region.wanted o (yielded ops a.tmps) = true) (t : TypeId) (ps : Array (Nat × Operand))
    (ho : o.op = .build t ps) (v : Value) (qs : Array (Nat × Value)) (hp : (ps.map fun (i, x) => (i, a.eval x)) = qs) (hv : (Instr.build t qs).run Tryz.prog w = .ok v w)
    (h : wpList Tryz.prog ops Q rest (a.put o.dst v) w) : wpList Tryz.prog ops Q (o :: rest) a w := by
  subst hp
  refine wpList_want hgd fun _ hK => ?_
  unfold Oper.wp execOp
  simp only [ho, Sem.run_bind, Sem.run_pure, Result.andThen_ok]
  rw [hv]
  exact hK _ _ h

set_option maxRecDepth 100000 in
set_option maxHeartbeats 8000000 in
theorem law_Parses (s : ByteArray) (w : World) (hL : Laid w) :
    Calls Tryz.prog 4 #[.string s] w fun e w' => e = .returned (.bool true) ∧ Below w.heap.size w w' := by
  have cw := Tryz.wakes31 w hL
  obtain ⟨m, hm⟩ : ∃ m : Nat, m = min s.size 2000 := ⟨_, rfl⟩
  have e1 : min (s.size : Int) 2000 = (m : Int) := by omega
  have hm1 : m ≤ s.size := by omega
  have hm2 : m ≤ 2000 := by omega
  have hzc := zCmd_size
  have h1 := zCmd_one
  clear hm
  go_enter Tryz.func4, Tryz.ntmps4
  go_wp2_with fail
  refine cw.mono ?_
  rintro e w3 ⟨rfl, hb3⟩
  have HB3 := hide hb3
  have HL := hide hL
  go_wp2_with fail
  obtain ⟨L, hLn⟩ : ∃ L, L = s.extract 0 m := ⟨_, rfl⟩
  have hLs : L.size ≤ 2000 := by rw [hLn]; have := cutB_size s m hm1; omega
  rw [← hLn]
  have c11 : ∀ W, Calls Tryz.prog 11 #[.string L] W (RPq (pLine L) W) := fun W => by rw [← rLine_is]; exact ref_Parse L (by omega) W
  have c10 := con_Parse L (by omega) w3 (hL.below hb3)
  clear hLn hm1 hm2 e1 cw hb3 hL
  refine c10.mono ?_
  rintro e w4 hp4
  clear c10
  cases hc : pLine L with
  | none =>
    simp only [hc] at hp4 c11
    obtain ⟨rfl, hb4⟩ := hp4
    have HB4 := hide (bB HB3.out hb4)
    clear hb4 hc
    go_wp2_with (refine wpList_storeW rfl _ _ _ rfl w4.heap.size 48 _ zCmd rfl rfl (na w4 zCmd 48) (by rw [size48, hzc]) rfl h1 ?_; simp only [Act.put]; generalize hT5 : setRow _ _ _ = w5; obtain ⟨hx5, f5⟩ := fin_x (b0 _) (na w4 zCmd 48) hT5; have HB5 := hide (bX (bA (b0 w4) (.cells zCmd 48)) hx5 (Nat.le_refl _)); clear hT5 hx5)
    refine (c11 _).mono ?_
    rintro e w6 ⟨Y, rfl, hYs, hY1, hb6⟩
    have f6 := kp hb6 f5
    have HB6 := hide (bB HB4.out (bB HB5.out hb6))
    have h46 : w4.heap.size < w6.heap.size := (rcell f6).2.2
    clear hb6 f5 HB5
    go_wp2_with (first
      | (refine wpList_storeW rfl _ _ _ rfl w6.heap.size 48 _ Y rfl rfl (na w6 zCmd 48) (by rw [size48, hYs]) (by rw [hYs]; rfl) hY1 ?_; simp only [Act.put]; generalize hT7 : setRow _ _ _ = w7; obtain ⟨hx7, -⟩ := fin_x (b0 _) (na w6 zCmd 48) hT7; have HB7 := hide (bB HB6.out (bX (bA (b0 w6) (.cells zCmd 48)) hx7 (Nat.le_refl _))); have f7 := kx hx7 (kp (bA (b0 w6) (.cells zCmd 48)) f6) (by omega); clear hT7 hx7)
      | (refine wpList_loadG rfl _ _ rfl w4.heap.size 48 zCmd rfl f7 _ rfl Tryz.underlying48 (by rw [size48, hzc]) ?_; simp only [Act.put, List.setIfInBounds_toArray, List.set_cons_zero, List.set_cons_succ])
      | (refine wpList_buildG rfl _ _ rfl (.agg zCmd) #[] (by simp [Act.eval]) (build48_0 _) ?_; simp only [Act.put, List.setIfInBounds_toArray, List.set_cons_zero, List.set_cons_succ]))
    refine (Tryz.same_zero w7 (HL.out.below HB7.out)).mono ?_
    rintro e w8 ⟨rfl, hb8⟩
    go_wp2_with fail
    go_ret
    exact ⟨rfl, bB HB7.out hb8⟩
  | some c =>
    simp only [hc] at hp4 c11
    obtain ⟨v, rfl, ⟨A, ac, M, mc, rfl, hA, hM⟩, hb4⟩ := hp4
    have HB4 := hide (bB HB3.out hb4)
    obtain ⟨X, hX⟩ : ∃ X, X = c.cs A ac M mc := ⟨_, rfl⟩
    have hXs : X.size = 19 := by rw [hX]; rfl
    have hX1 : X.all (·.oneCell') = true := by rw [hX]; exact cmd_one _ _ _ _ _ _
    rw [← hX]
    have HX := hide hX
    have HA := hide hA
    have HM := hide hM
    clear hb4 hc hX hA hM
    go_wp2_with (refine wpList_storeW rfl _ _ _ rfl w4.heap.size 48 _ X rfl rfl (na w4 zCmd 48) (by rw [size48, hXs]) (by rw [hXs]; rfl) hX1 ?_; simp only [Act.put]; generalize hT5 : setRow _ _ _ = w5; obtain ⟨hx5, f5⟩ := fin_x (b0 _) (na w4 zCmd 48) hT5; have HB5 := hide (bX (bA (b0 w4) (.cells zCmd 48)) hx5 (Nat.le_refl _)); clear hT5 hx5)
    refine (c11 _).mono ?_
    rintro e w6 ⟨v2, rfl, ⟨A2, ac2, M2, mc2, rfl, hA2, hM2⟩, hb6⟩
    obtain ⟨Y, hY⟩ : ∃ Y, Y = c.cs A2 ac2 M2 mc2 := ⟨_, rfl⟩
    have hYs : Y.size = 19 := by rw [hY]; rfl
    have hY1 : Y.all (·.oneCell') = true := by rw [hY]; exact cmd_one _ _ _ _ _ _
    rw [← hY]
    have HY := hide hY
    have HA2 := hide hA2
    have HM2 := hide hM2
    have f6 := kp hb6 f5
    have HA6 := hide (HA.out.below (bB HB5.out hb6))
    have HM6 := hide (HM.out.below (bB HB5.out hb6))
    have HB6 := hide (bB HB4.out (bB HB5.out hb6))
    have h46 : w4.heap.size < w6.heap.size := (rcell f6).2.2
    clear hb6 f5 HB5 hY hA2 hM2 HA HM
    go_wp2_with (first
      | (refine wpList_storeW rfl _ _ _ rfl w6.heap.size 48 _ Y rfl rfl (na w6 zCmd 48) (by rw [size48, hYs]) (by rw [hYs]; rfl) hY1 ?_; simp only [Act.put]; generalize hT7 : setRow _ _ _ = w7; obtain ⟨hx7, g7⟩ := fin_x (b0 _) (na w6 zCmd 48) hT7; have HB67 := hide (bX (bA (b0 w6) (.cells zCmd 48)) hx7 (Nat.le_refl _)); have f7 := kx hx7 (kp (bA (b0 w6) (.cells zCmd 48)) f6) (by omega); clear hT7 hx7)
      | (refine wpList_loadG rfl _ _ rfl w4.heap.size 48 X rfl f7 _ rfl Tryz.underlying48 (by rw [size48, hXs]) ?_; simp only [Act.put, List.setIfInBounds_toArray, List.set_cons_zero, List.set_cons_succ])
      | (refine wpList_loadG rfl _ _ rfl w6.heap.size 48 Y rfl g7 _ rfl Tryz.underlying48 (by rw [size48, hYs]) ?_; simp only [Act.put, List.setIfInBounds_toArray, List.set_cons_zero, List.set_cons_succ]))
    have c13 := ref_SameC c A ac M mc A2 ac2 M2 mc2 w7 (HA6.out.below HB67.out) (HM6.out.below HB67.out) (HA2.out.below HB67.out) (HM2.out.below HB67.out)
    rw [← HX.out, ← HY.out] at c13
    refine c13.mono ?_
    rintro e w8 ⟨rfl, hb8⟩
    go_wp2_with fail
    go_ret
    exact ⟨rfl, bB (bB HB6.out HB67.out) hb8⟩
end Go.Proofs.YtlnonecibpjcoaaGreatDoor
