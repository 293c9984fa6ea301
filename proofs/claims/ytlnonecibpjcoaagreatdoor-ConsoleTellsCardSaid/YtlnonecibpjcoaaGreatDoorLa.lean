/- ConsoleTells: the walk. ConsoleTells: the walk of the law. -/
import Derived.Test.YtlnonecibpjcoaaGreatDoorRb
import Derived.Test.YtlnonecibpjcoaaGreatDoorRc
import Derived.Test.YtlnonecibpjcoaaGreatDoorKX
set_option linter.unusedSimpArgs false
set_option linter.unusedVariables false
set_option linter.unusedSectionVars false
namespace Go.Proofs.YtlnonecibpjcoaaGreatDoor
open Go.RowKit
attribute [local go_sem] Oper.semAt_some

theorem inR_of {k : Nat} {w : World} {A : Option Addr} {rows : List (List Int)} (hr : ∀ r ∈ rows, r.length = k) (h : InK w A rows.length k (intV rows.flatten)) : InR k w A (rows.map intV) := by
  intro h0
  rw [List.length_map] at h0
  obtain ⟨ad, e, h1, h2⟩ := h.2 h0
  refine ⟨ad, e, h1, fun i hi j v hv => ?_⟩
  rw [List.length_map] at hi
  rw [List.getElem_map] at hv
  have hj : j < k := by
    have := (List.getElem?_eq_some_iff.1 hv).1
    simp only [intV, List.length_map] at this
    rw [hr _ (List.getElem_mem hi)] at this
    exact this
  have hlt : i * k + j < rows.length * k := by
    have h3 : (i + 1) * k ≤ rows.length * k := Nat.mul_le_mul_right k hi
    rw [Nat.succ_mul] at h3
    omega
  rw [h2 _ hlt, ← hv]
  have g := flat_get k rows hr i j hi hj
  simp only [intV, List.getElem?_map, g]
theorem rows_bk : ∀ {rows : List (List Int)}, (∀ r ∈ rows, r.length = 3) → ∃ bs : List Bk, rows = bs.map Bk.l
  | [], _ => ⟨[], rfl⟩
  | r :: rows, h => by
    obtain ⟨bs, hb⟩ := rows_bk (rows := rows) fun q hq => h q (List.mem_cons_of_mem _ hq)
    have hr := h r List.mem_cons_self
    match r, hr with
    | [a, b, c], _ => exact ⟨⟨a, b, c⟩ :: bs, by rw [hb]; rfl⟩
theorem rows_ans : ∀ {rows : List (List Int)}, (∀ r ∈ rows, r.length = 9) → ∃ bs : List Ans, rows = bs.map Ans.l
  | [], _ => ⟨[], rfl⟩
  | r :: rows, h => by
    obtain ⟨bs, hb⟩ := rows_ans (rows := rows) fun q hq => h q (List.mem_cons_of_mem _ hq)
    have hr := h r List.mem_cons_self
    match r, hr with
    | [a, b, c, d, e, f, g, i, j], _ => exact ⟨⟨a, b, c, d, e, f, g, i, j⟩ :: bs, by rw [hb]; rfl⟩
theorem flat_take (k : Nat) : ∀ (rows : List (List Int)) (m : Nat), (∀ r ∈ rows, r.length = k) → (intV rows.flatten).take (m * k) = intV (rows.take m).flatten
  | [], m, _ => by simp [intV]
  | r :: rows, 0, _ => by simp [intV]
  | r :: rows, m + 1, h => by
    have hr := h r List.mem_cons_self
    have ih := flat_take k rows m fun q hq => h q (List.mem_cons_of_mem _ hq)
    rw [List.take_succ_cons, List.flatten_cons, List.flatten_cons, intV_app, intV_app, ← ih, List.take_append]
    have hl : (intV r).length = k := by simp [intV, hr]
    rw [hl, show (m + 1) * k - k = m * k by rw [Nat.succ_mul]; omega, List.take_of_length_le (by rw [hl, Nat.succ_mul]; omega)]

/-- the report's line -/
def tellB (o : OpV) (err : Int) (a : Ans) (bs : List Bk) (bk : List Ans) : ByteArray :=
  if err ≠ 0 then ⟨#[101, 114, 114, 111, 114, 32]⟩ ++ itoaB err
  else if o.kind ≠ 5 ∨ o.qk < 1 ∨ 8 < o.qk then sOk
  else if o.qk = 7 then scanB bs
  else if o.qk = 8 then bksB o.qw bk
  else sOk ++ sBlank ++ oneB sBlank o.qk a
section
variable (o : OpV) (err : Int) (he : i64In err) (a : Ans) (ha : ∀ x ∈ a.l, i64In x) (bs : List Bk) (bk : List Ans) (X : Option Addr) (bc : Nat) (Y : Option Addr) (kc : Nat) (h1 : bs.length ≤ 1000) (h2 : bk.length ≤ 1000)
  (h3 : ∀ b ∈ bs, ∀ x ∈ b.l, i64In x) (h4 : ∀ b ∈ bk, ∀ x ∈ b.l, i64In x) (w : World) (hX : InR 3 w X (bs.map Bk.cs)) (hY : InR 9 w Y (bk.map Ans.rs))
include he ha h1 h2 h3 h4 hX hY
theorem con_Tell_all (hL : Laid w) : Calls Tryz.prog 8 #[.agg o.cs, .agg (repCs err a X bs.length bc Y bk.length kc)] w fun e w' => e = .returned (.string (tellB o err a bs bk)) ∧ Below w.heap.size w w' := by
  unfold tellB
  by_cases e0 : err = 0
  · subst e0
    rw [if_neg (by simp)]
    by_cases e1 : o.kind ≠ 5 ∨ o.qk < 1 ∨ 8 < o.qk
    · rw [if_pos e1, ← tell_ok]
      exact con_Tell_ok o e1 a X bs.length bc Y bk.length kc w
    · rw [if_neg e1]
      have hk : o.kind = 5 := Classical.byContradiction fun h => e1 (.inl h)
      by_cases e7 : o.qk = 7
      · rw [if_pos e7, ← tell_scan]
        exact con_Tell_scan o hk e7 a X bc bs h1 h3 Y bk.length kc w hL hX
      · rw [if_neg e7]
        by_cases e8 : o.qk = 8
        · rw [if_pos e8, ← tell_buckets]
          exact con_Tell_buckets o hk e8 a Y bs.length bc kc bk h2 h4 X w hL hY
        · rw [if_neg e8, ← tell_one]
          exact con_Tell_one o hk (by omega) a ha X bs.length bc Y bk.length kc w hL
  · rw [if_pos e0, ← tell_err]
    exact con_Tell_err o err e0 he a X bs.length bc Y bk.length kc w hL
theorem ref_Tell_all : Calls Tryz.prog 9 #[.agg o.cs, .agg (repCs err a X bs.length bc Y bk.length kc)] w fun e w' => e = .returned (.string (tellB o err a bs bk)) ∧ Below w.heap.size w w' := by
  unfold tellB
  by_cases e0 : err = 0
  · subst e0
    rw [if_neg (by simp)]
    by_cases e1 : o.kind ≠ 5 ∨ o.qk < 1 ∨ 8 < o.qk
    · rw [if_pos e1]
      exact ref_Tell_ok o e1 a X bs.length bc Y bk.length kc w
    · rw [if_neg e1]
      have hk : o.kind = 5 := Classical.byContradiction fun h => e1 (.inl h)
      by_cases e7 : o.qk = 7
      · rw [if_pos e7]
        exact ref_Tell_scan o hk e7 a X bc bs h1 h3 Y bk.length kc w hX
      · rw [if_neg e7]
        by_cases e8 : o.qk = 8
        · rw [if_pos e8]
          exact ref_Tell_buckets o hk e8 a Y bs.length bc kc bk h2 h4 X w hY
        · rw [if_neg e8]
          exact ref_Tell_one o hk (by omega) a ha X bs.length bc Y bk.length kc w
  · rw [if_pos e0]
    exact ref_Tell_err o err e0 he a X bs.length bc Y bk.length kc w
end
end Go.Proofs.YtlnonecibpjcoaaGreatDoor

namespace Go.Proofs.YtlnonecibpjcoaaGreatDoor
open Go.RowKit
attribute [local go_sem] Oper.semAt_some

theorem size42 : (Tryz.prog.info? 42).map (·.size) = some 12 := by kernel_rfl
theorem bk_info : (Tryz.prog.info? 69).map (fun i => (i.zero, i.size, i.bytes)) = some (some (.agg #[.int .i64 0, .int .i64 0, .int .i64 0]), 3, 24) := by kernel_rfl
theorem ans_info : (Tryz.prog.info? 38).map (fun i => (i.zero, i.size, i.bytes)) = some (some (.agg #[.int .i64 0, .int .i64 0, .int .i64 0, .int .i64 0, .int .i64 0, .int .i64 0, .int .i64 0, .int .i64 0, .int .i64 0]), 9, 72) := by kernel_rfl
theorem intV_one (l : List Int) : ∀ v ∈ intV l, v.oneCell' = true := by
  intro v hv
  obtain ⟨x, _, rfl⟩ := List.mem_map.1 hv
  rfl

theorem exec_loadW {ρ : Operand → Value} {o : Oper} {t : TypeId} {p : Operand} {g : Nat} {T : TypeId} {cs : Array Value} {w : World} (ho : o.op = .load t p) (hp : ρ p = .pointer (some ⟨g, 0, none⟩)) (hg : w.heap[g]? = some (.cells cs T (0, 0)))
    (d : TypeDesc) (hd : d.isRow = true) (hu : Tryz.prog.underlying t = some d) (hi : (Tryz.prog.info? t).map (·.size) = some cs.size) : (execOp ρ o).run Tryz.prog w = .ok (.value (.agg cs)) w := by
  unfold execOp
  simp only [ho, hp, Instr.loadAt, Instr.sureAddr, Sem.run_bind, Sem.run_pure, Result.andThen_ok]
  rw [run_loadVar_row w g T t cs (0, 0) d hg hu (by cases d <;> first | rfl | cases hd) hi]
  rfl
theorem add_zero (a : Addr) : a.add 0 = a := by unfold Addr.add; rw [if_pos rfl]
theorem run_sliceTo (t e sz : Nat) (hu : Tryz.prog.underlying t = some (.slice e)) (w : World) (hs : (sizeOf e).run Tryz.prog w = .ok sz w) (A : Option Addr) (n m c : Nat) (hm : m ≤ c) :
    (Instr.sliceAt t (.slice A n c) none (some (.int .i64 (m : Int))) none).run Tryz.prog w = .ok (.slice A m c) w := by
  have h1 : (Instr.sliceBound (.int .i64 (m : Int)) c .sliceAcap).run Tryz.prog w = .ok m w := by
    simp [Instr.sliceBound, asIntOf, hm]
  by_cases hc : c = 0
  · subst hc
    simp [Instr.sliceAt, Instr.slice, Instr.sliceBounds, run_underlying hu, h1, hs]
  · simp [Instr.sliceAt, Instr.slice, Instr.sliceBounds, run_underlying hu, h1, hs, hc, add_zero]
theorem wpList_sliceTo {ops : Array Oper} {rest : List Oper} {o : Oper} {a : Act} {w : World} {Q : Exit → Act → World → Prop} (hgd : o.guard = none) (t e sz : Nat) (hu : Tryz.prog.underlying t = some (.slice e)) (hs : ∀ w, (sizeOf e).run Tryz.prog w = .ok sz w)
    (x y : Operand) (ho : o.op = .slice t x none (some y) none) (A : Option Addr) (n m c : Nat) (hx : a.eval x = .slice A n c) (hy : a.eval y = .int .i64 (m : Int)) (hm : m ≤ c)
    (h : wpList Tryz.prog ops Q rest (a.put o.dst (.slice A m c)) w) : wpList Tryz.prog ops Q (o :: rest) a w := by
  refine wpList_plain hgd fun _ hK => ?_
  unfold Oper.wp execOp
  simp only [ho, hx, Option.map, hy, Sem.run_bind, Sem.run_pure, Result.andThen_ok, run_sliceTo t e sz hu w (hs w) A n m c hm]
  exact hK _ _ h
theorem wpList_store1 {ops : Array Oper} {rest : List Oper} {o : Oper} {a : Act} {w : World} {Q : Exit → Act → World → Prop} (hgd : o.guard = none) (t e : TypeId) (hu : Tryz.prog.underlying t = some (.slice e)) (p x : Operand)
    (ho : o.op = .store t p x) (g i : Nat) (T : TypeId) (old : Array Value) (A : Option Addr) (n c : Nat) (hp : a.eval p = .pointer (some ⟨g, i, none⟩)) (hx : a.eval x = .slice A n c)
    (hg : w.heap[g]? = some (.cells old T (0, 0))) (hi : i < old.size) (hz : ∀ w, (sizeOf t).run Tryz.prog w = .ok 1 w)
    (h : wpList Tryz.prog ops Q rest (a.put o.dst undef) (setRow w g (old.setIfInBounds i (.slice A n c)))) : wpList Tryz.prog ops Q (o :: rest) a w := by
  have hrun : (Instr.storeAt t (.pointer (some ⟨g, i, none⟩)) (.slice A n c)).run Tryz.prog w = .ok () (w.setCell ⟨g, i, none⟩ (.slice A n c)) := by
    obtain ⟨z1, z2, z3⟩ := rcell hg
    have e1 : w.cell? ⟨g, i, none⟩ = some old[i] := by rw [z1]; simp [hi]
    have e2 := z2 i
    simp [Instr.storeAt, Instr.sureAddr, storeVar, hz, storeCells, go_sem, e1, e2]
  refine wpList_plain hgd fun _ hK => ?_
  unfold Oper.wp execOp
  simp only [ho, hp, hx, Sem.run_bind, Sem.run_pure, Result.andThen_ok, hrun]
  rw [setRow_of_setCell hg _ rfl]
  exact hK _ _ h
set_option maxRecDepth 100000 in
set_option maxHeartbeats 4000000 in
theorem law_Tells (o : OpV) (err : Int) (he : i64In err) (a : Ans) (ha : ∀ x ∈ a.l, i64In x) (X : Option Addr) (xn xc : Nat) (xr : List (List Int)) (Y : Option Addr) (yn yc : Nat) (yr : List (List Int)) (w : World) (hL : Laid w)
    (hX : RowsIn w X xn xc 3 xr) (hY : RowsIn w Y yn yc 9 yr) :
    Calls Tryz.prog 3 #[.agg o.cs, .agg (repCs err a X xn xc Y yn yc)] w fun e w' => e = .returned (.bool true) ∧ Below w.heap.size w w' := by
  have hs0 : o.cs.size = 16 := rfl
  obtain ⟨O, hO⟩ : ∃ O, O = o.cs := ⟨_, rfl⟩
  obtain ⟨x0, x1, x2, x3, x4, x5, x6, x7, x8⟩ := a
  simp only [repCs] at *
  have hb1 := bA (b0 w) (.cells O 29)
  have hb2 := bA (b0 (w.alloc (.cells O 29))) (.cells #[.int .i64 err, .int .i64 x0, .int .i64 x1, .int .i64 x2, .int .i64 x3, .int .i64 x4, .int .i64 x5, .int .i64 x6, .int .i64 x7, .int .i64 x8, .slice X xn xc, .slice Y yn yc] 42)
  have hB := bB hb1 hb2
  have fo := kp hb2 (na w O 29)
  have fr := na (w.alloc (.cells O 29)) #[.int .i64 err, .int .i64 x0, .int .i64 x1, .int .i64 x2, .int .i64 x3, .int .i64 x4, .int .i64 x5, .int .i64 x6, .int .i64 x7, .int .i64 x8, .slice X xn xc, .slice Y yn yc] 42
  have hsz : (w.alloc (.cells O 29)).heap.size = w.heap.size + 1 := by simp
  rw [hsz] at fr
  have cw := Tryz.wakes31 _ (hL.below hB)
  have HXi := hide (hX.ink.below hB)
  have HYi := hide (hY.ink.below hB)
  rw [← hO]
  rw [← hO] at hs0
  have HO := hide hO
  clear hO
  go_enter Tryz.func3, Tryz.ntmps3
  go_wp2_with fail
  refine cw.mono ?_
  rintro e w3 ⟨rfl, hb3⟩
  have fo3 := kp hb3 fo
  have fr3 := kp hb3 fr
  have HB3 := hide (bB hB hb3)
  have HX3 := hide (HXi.out.below hb3)
  have HY3 := hide (HYi.out.below hb3)
  clear cw hb1 hb2 hB fo fr hb3 HXi HYi
  have hw3 : w.heap.size ≤ w3.heap.size := HB3.out.size
  obtain ⟨m, hm⟩ : ∃ m : Nat, m = min xn 100 := ⟨_, rfl⟩
  have e1 : min (xn : Int) 100 = (m : Int) := by omega
  have hmc : m ≤ xc := by have := hX.cap; omega
  have hm1 : m ≤ 100 := by omega
  have HM := hide hm
  clear hm
  have z3 := (rcell (kp (bA (b0 w3) (.cells #[] 69)) fr3)).1
  have HO3 := hide (OwnK.fresh (T := 69) (k := 3) w3)
  have HI3 := hide ((HX3.out.below (bA (b0 w3) (.cells #[] 69))).take (m := m) (by rw [HM.out]; omega))
  obtain ⟨m2, hm2⟩ : ∃ m2 : Nat, m2 = min yn 100 := ⟨_, rfl⟩
  have e2 : min (yn : Int) 100 = (m2 : Int) := by omega
  have hmc2 : m2 ≤ yc := by have := hY.cap; omega
  have hm22 : m2 ≤ 100 := by omega
  have HM2 := hide hm2
  clear hm2
  go_wp2_with (first
    | (refine wpList_sliceTo rfl 39 69 3 Tryz.underlying39 (fun w => Tryz.sizeOf69 w) _ _ rfl X xn m xc rfl rfl hmc ?_; simp only [Act.put, List.setIfInBounds_toArray, List.set_cons_zero, List.set_cons_succ])
    | (refine wpList_sliceTo rfl 40 38 9 Tryz.underlying40 (fun w => Tryz.sizeOf38 w) _ _ rfl Y yn m2 yc rfl rfl hmc2 ?_; simp only [Act.put, List.setIfInBounds_toArray, List.set_cons_zero, List.set_cons_succ])
    | (refine wpList_pushK rfl _ _ _ rfl 24 Tryz.underlying39 bk_info rfl (by decide) (by decide) w3.heap.size _ 0 m [] ((intV xr.flatten).take (m * 3)) X xc rfl rfl HO3.out HI3.out (fun v hv => intV_one _ v (List.mem_of_mem_take hv)) (by omega) (by simp) ?_; intro v4 w4 hO4 hlow4 hsz4; rw [Nat.zero_add, List.nil_append] at hO4; obtain ⟨A4, c4, rfl, hk4⟩ := hO4.cr; have hb4 := hlow4 w3 (bA (b0 w3) _); have fr4 := kp hb4 fr3; have fo4 := kp hb4 fo3; have HK4 := hide hk4; have HB4 := hide (bB HB3.out hb4); clear z3 hlow4 hsz4 hO4 hk4 hb4)
    | (refine wpList_store1 rfl 39 69 Tryz.underlying39 _ _ rfl (w.heap.size + 1) 10 42 _ A4 m c4 rfl rfl fr4 (by simp) (fun w => Tryz.sizeOf39 w) ?_; generalize hT5 : setRow w4 _ _ = w5; obtain ⟨hx5, fr5⟩ := fin_x (b0 _) fr4 hT5; simp only [List.setIfInBounds_toArray, List.set_cons_zero, List.set_cons_succ] at fr5; have z5 := (rcell (kp (bA (b0 w5) (.cells #[] 38)) fr5)).1; have fo5 := kx hx5 fo4 (by omega); have HB5 := hide (bX HB4.out hx5 (by omega)); have HK5 := hide (HK4.out.exc hx5 fr4 (by decide)); have HO5 := hide (OwnK.fresh (T := 38) (k := 9) w5); have HI5 := hide (((hY.ink.below HB5.out).below (bA (b0 w5) (.cells #[] 38))).take (m := m2) (by rw [HM2.out]; omega)); have hw5 := hx5.size; clear hT5 hx5)
    | (refine wpList_pushK rfl _ _ _ rfl 72 Tryz.underlying40 ans_info rfl (by decide) (by decide) w5.heap.size _ 0 m2 [] ((intV yr.flatten).take (m2 * 9)) Y yc rfl rfl HO5.out HI5.out (fun v hv => intV_one _ v (List.mem_of_mem_take hv)) (by omega) (by simp) ?_; intro v6 w6 hO6 hlow6 hsz6; rw [Nat.zero_add, List.nil_append] at hO6; obtain ⟨A6, c6, rfl, hk6⟩ := hO6.cr; have hb6 := hlow6 w5 (bA (b0 w5) _); have fr6 := kp hb6 fr5; have fo6 := kp hb6 fo5; have HK6 := hide hk6; have HK56 := hide (HK5.out.below hb6); have HB6 := hide (bB HB5.out hb6); clear z5 hlow6 hsz6 hO6 hk6 hb6)
    | (refine wpList_store1 rfl 40 38 Tryz.underlying40 _ _ rfl (w.heap.size + 1) 11 42 _ A6 m2 c6 rfl rfl fr6 (by simp) (fun w => Tryz.sizeOf40 w) ?_; generalize hT7 : setRow w6 _ _ = w7; obtain ⟨hx7, fr7⟩ := fin_x (b0 _) fr6 hT7; simp only [List.setIfInBounds_toArray, List.set_cons_zero, List.set_cons_succ] at fr7; have fo7 := kx hx7 fo6 (by omega); have HB7 := hide (bX HB6.out hx7 (by omega)); have HK7 := hide (HK56.out.exc hx7 fr6 (by decide)); have HL7 := hide (HK6.out.exc hx7 fr6 (by decide)); clear hT7 hx7))
  obtain ⟨bs, hbs⟩ := rows_bk (rows := xr.take m) fun r hr => (hX.each r (List.mem_of_mem_take hr)).1
  obtain ⟨bk, hbk⟩ := rows_ans (rows := yr.take m2) fun r hr => (hY.each r (List.mem_of_mem_take hr)).1
  have hxl : xr.length = xn := hX.len
  have hyl : yr.length = yn := hY.len
  have hbl : bs.length = m := by
    have := congrArg List.length hbs
    simp only [List.length_take, List.length_map] at this
    have h := HM.out
    omega
  have hkl : bk.length = m2 := by
    have := congrArg List.length hbk
    simp only [List.length_take, List.length_map] at this
    have h := HM2.out
    omega
  have hbi : ∀ b ∈ bs, ∀ x ∈ b.l, i64In x := fun b hb x hx => by
    have h1 : b.l ∈ xr.take m := by rw [hbs]; exact List.mem_map.2 ⟨b, hb, rfl⟩
    exact (hX.each _ (List.mem_of_mem_take h1)).2 x hx
  have hki : ∀ b ∈ bk, ∀ x ∈ b.l, i64In x := fun b hb x hx => by
    have h1 : b.l ∈ yr.take m2 := by rw [hbk]; exact List.mem_map.2 ⟨b, hb, rfl⟩
    exact (hY.each _ (List.mem_of_mem_take h1)).2 x hx
  have hXR : InR 3 w7 A4 (bs.map Bk.cs) := by
    have h := HK7.out.inK
    rw [flat_take 3 xr m fun r hr => (hX.each r hr).1, hbs] at h
    have h2 := inR_of (k := 3) (rows := bs.map Bk.l) (fun r hr => by obtain ⟨b, _, rfl⟩ := List.mem_map.1 hr; rfl) (by rw [List.length_map, hbl]; exact h)
    rwa [List.map_map] at h2
  have hYR : InR 9 w7 A6 (bk.map Ans.rs) := by
    have h := HL7.out.inK
    rw [flat_take 9 yr m2 fun r hr => (hY.each r hr).1, hbk] at h
    have h2 := inR_of (k := 9) (rows := bk.map Ans.l) (fun r hr => by obtain ⟨b, _, rfl⟩ := List.mem_map.1 hr; rfl) (by rw [List.length_map, hkl]; exact h)
    rwa [List.map_map] at h2
  have c8 : ∀ W, Below w7.heap.size w7 W → Calls Tryz.prog 8 #[.agg O, .agg #[.int .i64 err, .int .i64 x0, .int .i64 x1, .int .i64 x2, .int .i64 x3, .int .i64 x4, .int .i64 x5, .int .i64 x6, .int .i64 x7, .int .i64 x8, .slice A4 m c4, .slice A6 m2 c6]] W fun e w' => e = .returned (.string (tellB o err ⟨x0, x1, x2, x3, x4, x5, x6, x7, x8⟩ bs bk)) ∧ Below W.heap.size W w' := fun W hW => by
    have h := con_Tell_all o err he ⟨x0, x1, x2, x3, x4, x5, x6, x7, x8⟩ ha bs bk A4 c4 A6 c6 (by omega) (by omega) hbi hki W (hXR.below hW) (hYR.below hW) (hL.below (bB HB7.out hW))
    simp only [repCs] at h
    rw [hbl, hkl, ← HO.out] at h
    exact h
  have c9 : ∀ W, Below w7.heap.size w7 W → Calls Tryz.prog 9 #[.agg O, .agg #[.int .i64 err, .int .i64 x0, .int .i64 x1, .int .i64 x2, .int .i64 x3, .int .i64 x4, .int .i64 x5, .int .i64 x6, .int .i64 x7, .int .i64 x8, .slice A4 m c4, .slice A6 m2 c6]] W fun e w' => e = .returned (.string (tellB o err ⟨x0, x1, x2, x3, x4, x5, x6, x7, x8⟩ bs bk)) ∧ Below W.heap.size W w' := fun W hW => by
    have h := ref_Tell_all o err he ⟨x0, x1, x2, x3, x4, x5, x6, x7, x8⟩ ha bs bk A4 c4 A6 c6 (by omega) (by omega) hbi hki W (hXR.below hW) (hYR.below hW)
    simp only [repCs] at h
    rw [hbl, hkl, ← HO.out] at h
    exact h
  generalize tellB o err ⟨x0, x1, x2, x3, x4, x5, x6, x7, x8⟩ bs bk = T at *
  have hrs : (#[.int .i64 err, .int .i64 x0, .int .i64 x1, .int .i64 x2, .int .i64 x3, .int .i64 x4, .int .i64 x5, .int .i64 x6, .int .i64 x7, .int .i64 x8, .slice A4 m c4, .slice A6 m2 c6] : Array Value).size = 12 := rfl
  generalize (#[.int .i64 err, .int .i64 x0, .int .i64 x1, .int .i64 x2, .int .i64 x3, .int .i64 x4, .int .i64 x5, .int .i64 x6, .int .i64 x7, .int .i64 x8, .slice A4 m c4, .slice A6 m2 c6] : Array Value) = R at *
  have hTT := strEq T
  clear hXR hYR hbi hki hbl hkl hxl hyl hbs hbk e1 e2 hmc hmc2
  refine Abs.wp_region_abs (Abs.cls0 _) [0, 1, 2, 3, 4, 5, 6, 7] (by kernel_rfl) (by kernel_rfl) (Below.refl _ _).drew ?_
  (refine Abs.step_load (v := .agg O) rfl rfl (by kernel_rfl) rfl (fun w0 hI => ?_) (fun K hK => ?_); (· have hf := kp hI fo7; exact exec_loadW rfl rfl hf _ rfl Tryz.underlying29 (by rw [size29, hs0])); (simp only [Act.put, List.setIfInBounds_toArray, List.set_cons_zero, List.set_cons_succ]; refine hK _ _ ?_; clear hK K))
  (refine Abs.step_load (v := .agg R) rfl rfl (by kernel_rfl) rfl (fun w0 hI => ?_) (fun K hK => ?_); (· have hf := kp hI fr7; exact exec_loadW rfl rfl hf _ rfl Tryz.underlying42 (by rw [size42, hrs])); (simp only [Act.put, List.setIfInBounds_toArray, List.set_cons_zero, List.set_cons_succ]; refine hK _ _ ?_; clear hK K))
  (refine Abs.step_call_val (f := ?_) (args := ?_) (v := ?_) rfl rfl rfl rfl (fun w0 => ?_) (fun w0 hI => ?_) (fun K hK => ?_); rotate_left 3; (· go_simp; (constructor <;> rfl)); (· exact c8 _ hI); (simp only [Act.put, List.setIfInBounds_toArray, List.set_cons_zero, List.set_cons_succ]; refine hK _ _ ?_; clear hK K))
  (refine Abs.step_load (v := .agg O) rfl rfl (by kernel_rfl) rfl (fun w0 hI => ?_) (fun K hK => ?_); (· have hf := kp hI fo7; exact exec_loadW rfl rfl hf _ rfl Tryz.underlying29 (by rw [size29, hs0])); (simp only [Act.put, List.setIfInBounds_toArray, List.set_cons_zero, List.set_cons_succ]; refine hK _ _ ?_; clear hK K))
  (refine Abs.step_load (v := .agg R) rfl rfl (by kernel_rfl) rfl (fun w0 hI => ?_) (fun K hK => ?_); (· have hf := kp hI fr7; exact exec_loadW rfl rfl hf _ rfl Tryz.underlying42 (by rw [size42, hrs])); (simp only [Act.put, List.setIfInBounds_toArray, List.set_cons_zero, List.set_cons_succ]; refine hK _ _ ?_; clear hK K))
  (refine Abs.step_call_val (f := ?_) (args := ?_) (v := ?_) rfl rfl rfl rfl (fun w0 => ?_) (fun w0 hI => ?_) (fun K hK => ?_); rotate_left 3; (· go_simp; (constructor <;> rfl)); (· exact c9 _ hI); (simp only [Act.put, List.setIfInBounds_toArray, List.set_cons_zero, List.set_cons_succ]; refine hK _ _ ?_; clear hK K))
  repeat (first | (refine Abs.step_pure rfl rfl (fun K hK => ?_); go_simp; (try go_bits); (first | refine hK _ _ ?_ | (simp only [↓IntWalk.iteOmega]; go_simp; (try go_bits); refine hK _ _ ?_)); clear hK K) | (refine Abs.step_load (v := ?_) rfl rfl (by kernel_rfl) rfl (fun w0 hI => ?_) (fun K hK => ?_); rotate_left; (· go_simp; rfl); (simp only [Act.put, List.setIfInBounds_toArray, List.set_cons_zero, List.set_cons_succ]; refine hK _ _ ?_; clear hK K)))
  (intro w9 hb9 hx0 hx1 hx2; clear hx0 hx1 hx2; simp only [Abs.T_setF, Abs.T_addA, Abs.T_push, Abs.T_start])
  go_wp2_with fail
  go_ret
  exact ⟨rfl, bB HB7.out hb9⟩
end Go.Proofs.YtlnonecibpjcoaaGreatDoor
