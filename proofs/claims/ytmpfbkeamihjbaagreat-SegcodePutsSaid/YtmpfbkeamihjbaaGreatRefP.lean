/- yearbookref11 at this program: Points, Kind. -/
import Derived.Test.YtmpfbkeamihjbaaGreatRunS
import Derived.Test.YtmpfbkeamihjbaaGreatRef13
import Derived.Test.YtmpfbkeamihjbaaGreatQ2
import Derived.Test.YtmpfbkeamihjbaaGreatLineRisesP
set_option linter.unusedSimpArgs false
set_option linter.unusedVariables false
namespace Go.Proofs.YtmpfbkeamihjbaaGreat
open Go.RowKit
attribute [local go_sem] Oper.semAt_some

theorem r2_at1 {w : World} {g : Nat} {a0 a1 : Value} {t : TypeId} {f : Nat × Nat} (h : w.heap[g]? = some (.cells #[a0, a1] t f)) (v : Value) : w.setCell ⟨g, 1, none⟩ v = setRow w g #[a0, v] := setRow_of_setCell h v rfl

/-- a row of points of the call's own, whatever it holds -/
def OwnT (B : Nat) (w : World) (v : Value) (n : Nat) : Prop := ∃ xs, w.ownsRow B 102 2 v n xs
theorem OwnT.lift {B : Nat} {w w' : World} {v : Value} {n : Nat} (h : OwnT B w v n) (hb : Below w.heap.size w w') : OwnT B w' v n := by
  obtain ⟨xs, h1, h2⟩ := h
  refine ⟨xs, h1, ?_⟩
  rcases h2 with h2 | ⟨g, cap, cur, h3, h4, h5, h6⟩
  · exact .inl h2
  · exact .inr ⟨g, cap, cur, h3, h4, (hb.block g (Array.getElem?_eq_some_iff.1 h5).1).trans h5, h6⟩
theorem OwnT.lt {B : Nat} {w : World} {v : Value} {n : Nat} (h : OwnT B w v n) : ∀ k, v.ownBlock = some k → B ≤ k := fun k hk => by
  obtain ⟨xs, h⟩ := h
  exact (World.ownsRow.lt h k hk).1
theorem OwnT.nil (B : Nat) (w : World) : OwnT B w (.slice none 0 0) 0 := ⟨[], World.ownsRow_nil w B _ 2⟩
theorem OwnT.at_block {B : Nat} {w : World} {v : Value} {n : Nat} (h : OwnT B w v n) {k : Nat} (hk : v.ownBlock = some k) : ∃ cur, w.heap[k]? = some (.cells cur 102 (0, 0)) := by
  obtain ⟨xs, -, ⟨rfl, -⟩ | ⟨g, cap, cur, rfl, -, hg, -⟩⟩ := h
  · cases hk
  · injection hk with hk
    subst hk
    exact ⟨cur, hg⟩
theorem point_info : (Tryz.prog.info? 102).map (fun i => (i.zero, i.size, i.bytes)) = some (some (.agg #[.int .i64 0, .int .i64 0]), 2, 16) := by kernel_rfl

set_option maxRecDepth 100000 in
theorem wpList_pushT {ops : Array Oper} {rest : List Oper} {o : Oper} {a : Act} {w : World} {Q : Exit → Act → World → Prop} (hgd : o.guard = none) (s x : Operand)
    (ho : o.op = .call { callee := .builtin .append, args := #[s, x], argTypes := #[65, 65] }) (B : Nat) (v : Value) (n : Nat) (g c : Nat) (t u : Int)
    (hs : a.eval s = v) (hx : a.eval x = .slice (some ⟨g, 0, none⟩) 1 c) (hown : OwnT B w v n) (hg : w.heap[g]? = some (.cells #[.int .i64 t, .int .i64 u] 102 (0, 0))) (hlen : n ≤ 4096) (hB : B ≤ w.heap.size)
    (h : ∀ v' w', OwnT B w' v' (n + 1) → (∀ w0 : World, Below B w0 w → Below B w0 w') → (∀ (g : Nat) (cs : Array Value) (t : TypeId), w.heap[g]? = some (.cells cs t (0, 0)) → t ≠ 102 → w'.heap[g]? = some (.cells cs t (0, 0))) → w.heap.size ≤ w'.heap.size → wpList Tryz.prog ops Q rest (a.put o.dst v') w') : wpList Tryz.prog ops Q (o :: rest) a w := by
  obtain ⟨i0, hi0, hz0, hz1, hz2⟩ := info_parts point_info
  have hown' := hown
  obtain ⟨xs, hw⟩ := hown'
  obtain ⟨v', w', hrun, h2, h3, _, _⟩ := run_append_own_at (P := Tryz.prog) w B 65 o.type 102 i0 (.agg #[.int .i64 0, .int .i64 0]) 2 16 Tryz.underlying65 hi0 hz0 hz1 hz2 rfl (by decide) v n xs hw ⟨g, 0, none⟩ 1 c [.int .i64 t, .int .i64 u] rfl (fun j y hj => by
      have q := rcell hg
      match j, hj with
      | 0, hj => injection hj with hj; subst hj; exact q.1 0
      | 1, hj => injection hj with hj; subst hj; exact q.1 1
      | j + 2, hj => exact absurd hj (by simp))
    (by intro y hy; simp only [List.mem_cons, List.not_mem_nil, or_false] at hy; rcases hy with rfl | rfl <;> rfl) (by simp only [maxLen]; omega) (by omega) hB
  refine wpList_plain hgd fun _ hK => ?_
  unfold Oper.wp execOp
  simp only [ho, resolve, invoke, builtin, Sem.run_bind, Sem.run_pure, Result.andThen_ok, List.map_toArray, List.map_cons, List.map_nil, hs, hx]
  rw [hrun]
  exact hK _ _ (h v' w' ⟨_, h2⟩ (fun w0 hb => hb.grown h3 hB hown.lt) (fun g cs t hg ht => grown_other (fun k hk => hown.at_block hk) h3 hg ht) h3.size)

set_option maxRecDepth 100000 in
theorem ref11_Kind (A R N D : Int) (w : World) :
    Calls Tryz.prog 35 #[.agg #[.int .i64 A, .int .i64 R, .int .i64 N, .int .i64 D]] w fun e w' => e = .returned (.int .i64 (if N = 0 then 1 else if R = 0 then 2 else 3)) ∧ Below w.heap.size w w' := by
  by_cases h1 : N = 0
  · rw [if_pos h1]
    subst h1
    go_enter Tryz.func35, Tryz.ntmps35
    go_wp2
    go_ret
    exact ⟨rfl, (bA (b0 w) (.cells #[.int .i64 A, .int .i64 R, .int .i64 0, .int .i64 D] 24))⟩
  · rw [if_neg h1]
    have d1 : (N == 0) = false := by simp [h1]
    by_cases h2 : R = 0
    · rw [if_pos h2]
      subst h2
      go_enter Tryz.func35, Tryz.ntmps35
      go_wp2
      go_ret
      exact ⟨rfl, (bA (b0 w) (.cells #[.int .i64 A, .int .i64 0, .int .i64 N, .int .i64 D] 24))⟩
    · rw [if_neg h2]
      have d2 : (R == 0) = false := by simp [h2]
      go_enter Tryz.func35, Tryz.ntmps35
      go_wp2
      go_ret
      exact ⟨rfl, (bA (b0 w) (.cells #[.int .i64 A, .int .i64 R, .int .i64 N, .int .i64 D] 24))⟩

/-- a call that hands back points, and a Bool -/
def GivesPt (z : Bool) (w : World) (e : Ending) (w' : World) : Prop := ∃ v, e = .returned (.tuple #[v, .bool z]) ∧ Below w.heap.size w w'
theorem all_at {α : Type} {p : α → Bool} {l : List α} {i : Nat} (h : i < l.length) (hp : p l[i] = false) : l.all p = false := by
  rw [Bool.eq_false_iff]
  intro q
  have := List.all_eq_true.1 q _ (List.getElem_mem h)
  rw [hp] at this
  cases this
theorem all_take {α : Type} {p : α → Bool} {l : List α} {k : Nat} (h : k < l.length) (h1 : (l.take k).all p = true) (hp : p l[k] = true) : (l.take (k + 1)).all p = true := by
  rw [List.take_succ_eq_append_getElem h, List.all_append, h1]
  simp [hp]

theorem rsC_first : ∀ (t : List Int) (lo : Int), rsC lo t = true → ∀ i (h : i < t.length) (h0 : 0 < t.length), t[0] ≤ t[i]
  | [], _, _, _, h, _ => absurd h (Nat.not_lt_zero _)
  | [x], lo, hr, i, h, _ => by
    obtain rfl : i = 0 := by simpa using h
    exact Int.le_refl _
  | x :: y :: r, lo, hr, i, h, _ => by
    obtain ⟨h1, h2, h3⟩ := rsC_cons.1 hr
    obtain ⟨h4, h5, h6⟩ := rsC_cons.1 h3
    match i, h with
    | 0, _ => exact Int.le_refl _
    | i + 1, h =>
      have := rsC_first (y :: r) x h3 i (by simpa using h) (by simp)
      simp only [List.getElem_cons_zero, List.getElem_cons_succ] at this ⊢
      omega

section
variable (RA VA : Option Addr) (rc vc : Nat) (l : List Rn) (vs : List Int) (kd A R N D er : Int)
set_option maxRecDepth 100000 in
set_option maxHeartbeats 8000000 in
theorem ref11_Points_raw (hs : rsB (tmR l) = true) (w : World) (hR : RR w RA rc l) (hl : vs.length = (tmR l).length) (hV : VR w VA vc vs) :
    Calls Tryz.prog 36 #[.agg #[.int .i64 4, .slice RA l.length rc, .int .i64 A, .int .i64 R, .int .i64 N, .int .i64 D, .slice VA vs.length vc, .int .i64 er]] w (GivesPt (vs.all bkV) w) := by
  have cT := fun w hR => ref07_Times RA rc l w hR
  unfold rsB at hs
  simp only [Bool.and_eq_true, decide_eq_true_eq] at hs
  obtain ⟨a1, a2, a3⟩ := hs
  have HBd := hide (rsC_bd (tmR l) (-1) (by decide) a3)
  clear a3
  generalize tmR l = T at *
  generalize hz : (vs.all bkV) = z
  have HZ := hide hz
  clear hz
  have HHl := hide hl
  clear hl
  go_enter Tryz.func36, Tryz.ntmps36
  go_wp2_with fail
  refine (cT _ (hR.below (bA (b0 _) (.cells #[.int .i64 4, .slice RA l.length rc, .int .i64 A, .int .i64 R, .int .i64 N, .int .i64 D, .slice VA vs.length vc, .int .i64 er] 27)))).mono ?_
  rintro e wa ⟨B, d, n, rfl, hn, hv, ba⟩
  obtain rfl := hn.out
  have fs := kp ba (na w #[.int .i64 4, .slice RA l.length rc, .int .i64 A, .int .i64 R, .int .i64 N, .int .i64 D, .slice VA vs.length vc, .int .i64 er] 27)
  have Ba := bB (bA (b0 w) (.cells #[.int .i64 4, .slice RA l.length rc, .int .i64 A, .int .i64 R, .int .i64 N, .int .i64 D, .slice VA vs.length vc, .int .i64 er] 27)) ba
  have rv := ((hV.below (bA (b0 _) (.cells #[.int .i64 4, .slice RA l.length rc, .int .i64 A, .int .i64 R, .int .i64 N, .int .i64 D, .slice VA vs.length vc, .int .i64 er] 27)))).below ba
  have hvc := rv.cap
  have hvt := rv.top
  have HV := hide rv
  have htc := hv.cap
  have htt := hv.top
  have HVT := hide hv
  clear hn hv hR
  obtain ⟨zs_a, zs_b, ls1⟩ := rcell fs
  go_wp2_with fail
  go_loopw [5, 6] (fun vo vi wr => ∃ (k : Nat) (m : Nat) (v0 : Value), v0 = vo ∧ vi = .int .i64 k ∧ k ≤ T.length ∧ m ≤ k ∧ Hid ((vs.take k).all bkV = true) ∧ OwnT wa.heap.size wr v0 m ∧ Below wa.heap.size wa wr) (fun _ vi _ => T.length - (intOf vi).toNat)
  case atStart => exact ⟨0, 0, _, rfl, rfl, by omega, by omega, hide rfl, OwnT.nil _ _, b0 wa⟩
  case round =>
    obtain ⟨k, m, v0, rfl, rfl, hk2, hm, hP, ho, hb1⟩ := hrel
    have j1 := kp hb1 fs
    have hb := bB Ba hb1
    by_cases hlt : k < T.length
    · obtain ⟨gt', ot, curt, rfl, hgt, hct⟩ := HVT.out.mem (by omega)
      have hgtr := kp hb1 hgt
      have qt := hct k hlt
      have bt := HBd.out k hlt
      have hkv : k < vs.length := by have := HHl.out; omega
      obtain ⟨gv, ov, curv, rfl, hgv, hcv⟩ := HV.out.mem (by omega)
      have hgvr := kp hb1 hgv
      have qv := hcv k hkv
      have hst := hide (fun h1 h2 => all_take (p := bkV) (k := k) hkv h1 h2)
      have hno := hide (fun h2 => all_at (p := bkV) hkv h2)
      have cB := ref_Back0 vs[k]
      have hbe : bkB vs[k] = bkV vs[k] := by simp [bkB, bkV]
      rw [hbe] at cB
      clear hct hcv
      generalize hvk : vs[k] = x at *
      clear hvk
      have htk := hide (show True from trivial)
      generalize T[k] = t at *
      cases hbk : bkV x
      · have HF : Hid (z = false) := hide (HZ.out.symm.trans (hno.out hbk))
        rw [hbk] at cB
        clear hst hno hbk hP
        obtain ⟨zs_a, zs_b, ls2⟩ := rcell j1
        obtain ⟨zt_a, zt_b, lt3⟩ := rcell hgtr
        obtain ⟨zv_a, zv_b, lv4⟩ := rcell hgvr
        go_wp2_with fail
        refine (cB _).mono ?_
        rintro e wq ⟨rfl, rfl⟩
        go_wp2
        go_ret2
        exact ⟨_, by rw [HF.out]; rfl, (bA hb (.cells #[.int .i64 t, .int .i64 x] 102))⟩
      · have HP2 := hide (hst.out hP.out hbk)
        rw [hbk] at cB
        clear hst hno hbk hP
        obtain ⟨zs_a, zs_b, ls5⟩ := rcell j1
        obtain ⟨zt_a, zt_b, lt6⟩ := rcell hgtr
        obtain ⟨zv_a, zv_b, lv7⟩ := rcell hgvr
        go_wp2_with fail
        refine (cB _).mono ?_
        rintro e wq ⟨rfl, rfl⟩
        have ho1 := (ho.lift (bA (b0 wr) (.cells #[.int .i64 t, .int .i64 x] 102)))
        have k4 : m ≤ 4096 := by omega
        have hsw := hb1.size
        have kB : wa.heap.size ≤ ((wr.alloc (.cells #[.int .i64 t, .int .i64 x] 102)).alloc (.cells #[.int .i64 t, .int .i64 x] 102)).heap.size := by simp only [World.size_alloc]; omega
        go_wp2_with (at_builtin; (refine wpList_pushT rfl _ _ rfl wa.heap.size _ m _ 1 t x rfl rfl (ho1.lift (bA (b0 _) _)) (na1 wr _ _ _) k4 kB ?_; intro v1 w5 ho5 hb5 hk5 hs5))
        go_roundw
        case rel => exact ⟨k + 1, m + 1, v1, rfl, by go_num, by omega, by omega, hide HP2.out, ho5, hb5 wa ((bA (bA hb1 _) _))⟩
        case measure => simp [intOf]; omega
    · have hkT : k = T.length := by omega
      have HF : Hid (z = true) := hide (by
        rw [← HZ.out]
        have := hP.out
        rwa [List.take_of_length_le (by rw [HHl.out]; omega)] at this)
      clear hP hkT
      go_wp2
      go_ret2
      exact ⟨_, by rw [HF.out]; rfl, hb⟩

set_option maxRecDepth 100000 in
set_option maxHeartbeats 8000000 in
theorem ref11_Points_line (hs : rsB (tmR l) = true) (w : World) (hR : RR w RA rc l) (hk : ¬ kd = 4) (hL : isB A R N D = true) :
    Calls Tryz.prog 36 #[.agg #[.int .i64 kd, .slice RA l.length rc, .int .i64 A, .int .i64 R, .int .i64 N, .int .i64 D, .slice VA vs.length vc, .int .i64 er]] w (GivesPt ((tmR l).all fun t => bkB (lnQ A R N D (t - (tmR l).getD 0 0))) w) := by
  have cT := fun w hR => ref07_Times RA rc l w hR
  unfold rsB at hs
  simp only [Bool.and_eq_true, decide_eq_true_eq] at hs
  obtain ⟨a1, a2, a3⟩ := hs
  have HBd := hide (rsC_bd (tmR l) (-1) (by decide) a3)
  have HT0 : Hid (∀ i (h : i < (tmR l).length), 0 ≤ (tmR l)[i] - (tmR l).getD 0 0 ∧ (tmR l)[i] - (tmR l).getD 0 0 ≤ 281474976710656) := hide (fun i h => by
    have b0 := HBd.out 0 (by omega)
    have bi := HBd.out i h
    have e0 : (tmR l).getD 0 0 = (tmR l)[0] := by simp [show 0 < (tmR l).length by omega]
    have hle : (tmR l)[0] ≤ (tmR l)[i] := rsC_first (tmR l) (-1) a3 i h (by omega)
    rw [e0]
    omega)
  have d4 : (kd == 4) = false := by simp [hk]
  clear a3
  generalize tmR l = T at *
  generalize hz : (T.all fun t => bkB (lnQ A R N D (t - T.getD 0 0))) = z
  have HZ := hide hz
  clear hz
  go_enter Tryz.func36, Tryz.ntmps36
  go_wp2_with fail
  refine (cT _ (hR.below (bA (b0 _) (.cells #[.int .i64 kd, .slice RA l.length rc, .int .i64 A, .int .i64 R, .int .i64 N, .int .i64 D, .slice VA vs.length vc, .int .i64 er] 27)))).mono ?_
  rintro e wa ⟨B, d, n, rfl, hn, hv, ba⟩
  obtain rfl := hn.out
  have fs := kp ba (na w #[.int .i64 kd, .slice RA l.length rc, .int .i64 A, .int .i64 R, .int .i64 N, .int .i64 D, .slice VA vs.length vc, .int .i64 er] 27)
  have Ba := bB (bA (b0 w) (.cells #[.int .i64 kd, .slice RA l.length rc, .int .i64 A, .int .i64 R, .int .i64 N, .int .i64 D, .slice VA vs.length vc, .int .i64 er] 27)) ba
  have htc := hv.cap
  have htt := hv.top
  have HVT := hide hv
  clear hn hv hR
  obtain ⟨zs_a, zs_b, ls1⟩ := rcell fs
  go_wp2_with fail
  go_loopw [5, 6] (fun vo vi wr => ∃ (k : Nat) (m : Nat) (v0 : Value), v0 = vo ∧ vi = .int .i64 k ∧ k ≤ T.length ∧ m ≤ k ∧ Hid ((T.take k).all (fun t => bkB (lnQ A R N D (t - T.getD 0 0))) = true) ∧ OwnT wa.heap.size wr v0 m ∧ Below wa.heap.size wa wr) (fun _ vi _ => T.length - (intOf vi).toNat)
  case atStart => exact ⟨0, 0, _, rfl, rfl, by omega, by omega, hide rfl, OwnT.nil _ _, b0 wa⟩
  case round =>
    obtain ⟨k, m, v0, rfl, rfl, hk2, hm, hP, ho, hb1⟩ := hrel
    have j1 := kp hb1 fs
    have hb := bB Ba hb1
    by_cases hlt : k < T.length
    · obtain ⟨gt', ot, curt, rfl, hgt, hct⟩ := HVT.out.mem (by omega)
      have hgtr := kp hb1 hgt
      have qt := hct k hlt
      have bt := HBd.out k hlt
      have q0 := hct 0 (by omega)
      have q0' := q0
      rw [Nat.add_zero] at q0'
      have e0 : T.getD 0 0 = T[0] := by simp [show 0 < T.length by omega]
      have b0' := HBd.out 0 (by omega)
      have bd := HT0.out k hlt
      have hst := hide (fun h1 h2 => all_take (p := fun t => bkB (lnQ A R N D (t - T.getD 0 0))) (k := k) hlt h1 h2)
      have hno := hide (fun h2 => all_at (p := fun t => bkB (lnQ A R N D (t - T.getD 0 0))) hlt h2)
      have cA := ref_At A R N D (T[k] - T.getD 0 0) hL (by unfold tmB; exact decide_eq_true bd)
      clear hct
      rw [← e0] at q0 q0' b0'
      generalize T.getD 0 0 = t0 at *
      clear e0
      generalize T[k] = t at *
      have hw : wrap64 (t - t0) = t - t0 := by unfold wrap64; omega
      have hwi : IntKind.i64.wrap (t - t0) = t - t0 := IntWalk.i64_in _ (by omega)
      generalize lnQ A R N D (t - t0) = q at *
      cases hbk : bkB q
      · have HF : Hid (z = false) := hide (HZ.out.symm.trans (hno.out hbk))
        rw [hbk] at cA
        clear hst hno hbk hP
        obtain ⟨zs_a, zs_b, ls2⟩ := rcell j1
        obtain ⟨zt_a, zt_b, lt3⟩ := rcell hgtr
        go_wp2_with fail
        have f_s4 := (ka (j1) (.cells #[.int .i64 t, .int .i64 0] 102))
        have f_t4 := (ka (hgtr) (.cells #[.int .i64 t, .int .i64 0] 102))
        have f_p4 := (na wr #[.int .i64 t, .int .i64 0] 102)
        have hB4 := (bA (b0 wr) (.cells #[.int .i64 t, .int .i64 0] 102))
        clear zs_a zs_b zt_a zt_b
        have ls4 := (rcell f_s4).2.2
        have lt4 := (rcell f_t4).2.2
        have lp4 := (rcell f_p4).2.2
        refine Abs.wp_region_abs (Abs.cls0 _) [0, 1, 2, 3, 4, 5, 6, 7, 8, 9, 10, 11, 12, 13, 14, 15] (by kernel_rfl) (by kernel_rfl) (Below.refl _ _).drew ?_
        repeat (first | (refine Abs.step_pure rfl rfl (fun K hK => ?_); go_simp; (try go_bits); (first | refine hK _ _ ?_ | (simp only [↓IntWalk.iteOmega]; go_simp; (try go_bits); refine hK _ _ ?_)); clear hK K) | (refine Abs.step_load (v := ?_) rfl rfl (by kernel_rfl) rfl (fun w0 hI => ?_) (fun K hK => ?_); rotate_left; (· have z0 := (rcell (kp hI (f_s4))).1; have z1 := (rcell (kp hI (f_t4))).1; go_simp; rfl); (simp only [Act.put, List.setIfInBounds_toArray, List.set_cons_zero, List.set_cons_succ]; refine hK _ _ ?_; clear hK K)) | (refine Abs.step_skip rfl rfl (fun K hK => ?_); (simp only [Act.put, List.setIfInBounds_toArray, List.set_cons_zero, List.set_cons_succ]; refine hK _ _ ?_; clear hK K)))
        (refine Abs.step_call_val (f := ?_) (args := ?_) (v := ?_) rfl rfl rfl rfl (fun w0 => ?_) (fun w0 hI => ?_) (fun K hK => ?_); rotate_left 3; (· go_simp; (constructor <;> rfl)); (· exact cA _); (simp only [Act.put, List.setIfInBounds_toArray, List.set_cons_zero, List.set_cons_succ]; refine hK _ _ ?_; clear hK K))
        repeat (first | (refine Abs.step_pure rfl rfl (fun K hK => ?_); go_simp; (try go_bits); (first | refine hK _ _ ?_ | (simp only [↓IntWalk.iteOmega]; go_simp; (try go_bits); refine hK _ _ ?_)); clear hK K) | (refine Abs.step_load (v := ?_) rfl rfl (by kernel_rfl) rfl (fun w0 hI => ?_) (fun K hK => ?_); rotate_left; (· have z0 := (rcell (kp hI (f_s4))).1; have z1 := (rcell (kp hI (f_t4))).1; go_simp; rfl); (simp only [Act.put, List.setIfInBounds_toArray, List.set_cons_zero, List.set_cons_succ]; refine hK _ _ ?_; clear hK K)) | (refine Abs.step_skip rfl rfl (fun K hK => ?_); (simp only [Act.put, List.setIfInBounds_toArray, List.set_cons_zero, List.set_cons_succ]; refine hK _ _ ?_; clear hK K)))
        intro w5 hb5 hx0 hx1 hx2
        clear hx0 hx1 hx2
        simp only [Abs.T_setF, Abs.T_addA, Abs.T_push, Abs.T_start]
        have f_s5 := kp hb5 (f_s4)
        have f_t5 := kp hb5 (f_t4)
        have f_p5 := kp hb5 (f_p4)
        have hB5 := bB hB4 hb5
        obtain ⟨zs_a, zs_b, ls5⟩ := rcell f_s5
        obtain ⟨zt_a, zt_b, lt5⟩ := rcell f_t5
        obtain ⟨zp_a, zp_b, lp5⟩ := rcell f_p5
        go_wp2
        go_ret2
        exact ⟨_, by rw [HF.out]; rfl, bB hb hB5⟩
      · have HP2 := hide (hst.out hP.out hbk)
        rw [hbk] at cA
        clear hst hno hbk hP
        obtain ⟨zs_a, zs_b, ls6⟩ := rcell j1
        obtain ⟨zt_a, zt_b, lt7⟩ := rcell hgtr
        go_wp2_with fail
        have f_s8 := (ka (j1) (.cells #[.int .i64 t, .int .i64 0] 102))
        have f_t8 := (ka (hgtr) (.cells #[.int .i64 t, .int .i64 0] 102))
        have f_p8 := (na wr #[.int .i64 t, .int .i64 0] 102)
        have hB8 := (bA (b0 wr) (.cells #[.int .i64 t, .int .i64 0] 102))
        clear zs_a zs_b zt_a zt_b
        have ls8 := (rcell f_s8).2.2
        have lt8 := (rcell f_t8).2.2
        have lp8 := (rcell f_p8).2.2
        refine Abs.wp_region_abs (Abs.cls0 _) [0, 1, 2, 3, 4, 5, 6, 7, 8, 9, 10, 11, 12, 13, 14, 15] (by kernel_rfl) (by kernel_rfl) (Below.refl _ _).drew ?_
        repeat (first | (refine Abs.step_pure rfl rfl (fun K hK => ?_); go_simp; (try go_bits); (first | refine hK _ _ ?_ | (simp only [↓IntWalk.iteOmega]; go_simp; (try go_bits); refine hK _ _ ?_)); clear hK K) | (refine Abs.step_load (v := ?_) rfl rfl (by kernel_rfl) rfl (fun w0 hI => ?_) (fun K hK => ?_); rotate_left; (· have z0 := (rcell (kp hI (f_s8))).1; have z1 := (rcell (kp hI (f_t8))).1; go_simp; rfl); (simp only [Act.put, List.setIfInBounds_toArray, List.set_cons_zero, List.set_cons_succ]; refine hK _ _ ?_; clear hK K)) | (refine Abs.step_skip rfl rfl (fun K hK => ?_); (simp only [Act.put, List.setIfInBounds_toArray, List.set_cons_zero, List.set_cons_succ]; refine hK _ _ ?_; clear hK K)))
        (refine Abs.step_call_val (f := ?_) (args := ?_) (v := ?_) rfl rfl rfl rfl (fun w0 => ?_) (fun w0 hI => ?_) (fun K hK => ?_); rotate_left 3; (· go_simp; (constructor <;> rfl)); (· exact cA _); (simp only [Act.put, List.setIfInBounds_toArray, List.set_cons_zero, List.set_cons_succ]; refine hK _ _ ?_; clear hK K))
        repeat (first | (refine Abs.step_pure rfl rfl (fun K hK => ?_); go_simp; (try go_bits); (first | refine hK _ _ ?_ | (simp only [↓IntWalk.iteOmega]; go_simp; (try go_bits); refine hK _ _ ?_)); clear hK K) | (refine Abs.step_load (v := ?_) rfl rfl (by kernel_rfl) rfl (fun w0 hI => ?_) (fun K hK => ?_); rotate_left; (· have z0 := (rcell (kp hI (f_s8))).1; have z1 := (rcell (kp hI (f_t8))).1; go_simp; rfl); (simp only [Act.put, List.setIfInBounds_toArray, List.set_cons_zero, List.set_cons_succ]; refine hK _ _ ?_; clear hK K)) | (refine Abs.step_skip rfl rfl (fun K hK => ?_); (simp only [Act.put, List.setIfInBounds_toArray, List.set_cons_zero, List.set_cons_succ]; refine hK _ _ ?_; clear hK K)))
        intro w9 hb9 hx0 hx1 hx2
        clear hx0 hx1 hx2
        simp only [Abs.T_setF, Abs.T_addA, Abs.T_push, Abs.T_start]
        have f_s9 := kp hb9 (f_s8)
        have f_t9 := kp hb9 (f_t8)
        have f_p9 := kp hb9 (f_p8)
        have hB9 := bB hB8 hb9
        obtain ⟨zs_a, zs_b, ls9⟩ := rcell f_s9
        obtain ⟨zt_a, zt_b, lt9⟩ := rcell f_t9
        obtain ⟨zp_a, zp_b, lp9⟩ := rcell f_p9
        have k4 : m ≤ 4096 := by omega
        have hsw := hb1.size
        go_wp2_with (at_builtin; go_loud (rw [r2_at1 (f_p9)]; generalize hT : setRow _ _ _ = w10; obtain ⟨hx10, f10⟩ := fin_x (b0 _) (f_p9) hT; have b10 : Below wr.heap.size wr w10 := bX hB9 hx10 (Nat.le_refl _); have kB : wa.heap.size ≤ (w10.alloc (.cells #[.int .i64 t, .int .i64 q] 102)).heap.size := (by have := b10.size; simp only [World.size_alloc]; omega); have hz10 : w10.heap.size = w9.heap.size := (by rw [← hT]; exact setRow_size _ _ _); clear hT; (refine wpList_pushT rfl _ _ rfl wa.heap.size _ m _ 1 t q rfl rfl ((ho.lift b10).lift (bA (b0 _) _)) (by rw [← hz10]; exact na w10 _ _) k4 kB ?_; intro v1 w5 ho5 hb5 hk5 hs5)))
        go_roundw
        case rel => exact ⟨k + 1, m + 1, v1, rfl, by go_num, by omega, by omega, hide HP2.out, ho5, hb5 wa (bA (bB hb1 b10) _)⟩
        case measure => simp [intOf]; omega
    · have hkT : k = T.length := by omega
      have HF : Hid (z = true) := hide (by
        rw [← HZ.out]
        have := hP.out
        rwa [List.take_of_length_le (by omega)] at this)
      clear hP hkT
      go_wp2
      go_ret2
      exact ⟨_, by rw [HF.out]; rfl, hb⟩
end
end Go.Proofs.YtmpfbkeamihjbaaGreat
