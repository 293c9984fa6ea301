/- The console's laws at this program: a command in memory of its own; names that are too long. The console's laws at this program: names that are too long. The console's laws at this program: rows of points, and of numbers, that are the same. -/
import Derived.Test.YtbiedfkmmcaplaaGreatDoorPz
set_option linter.all false
namespace Go.Proofs.YtbiedfkmmcaplaaGreatDoor
open Go.RowKit
attribute [local go_sem] Oper.semAt_some

theorem add_zero (a : Addr) : a.add 0 = a := by unfold Addr.add; rw [if_pos rfl]
theorem run_sliceTo (t e sz : Nat) (hu : Tryz.prog.underlying t = some (.slice e)) (w : World) (hs : (sizeOf e).run Tryz.prog w = .ok sz w) (A : Option Addr) (n m c : Nat) (hm : m ≤ c) :
    (Instr.sliceAt t (.slice A n c) none (some (.int .i64 (m : Int))) none).run Tryz.prog w = .ok (.slice A m c) w := by
  have h1 : (Instr.sliceBound (.int .i64 (m : Int)) c .sliceAcap).run Tryz.prog w = .ok m w := by
    simp [Instr.sliceBound, asIntOf, hm]
  by_cases hc : c = 0
  · subst hc
    simp [Instr.sliceAt, Instr.slice, Instr.sliceBounds, run_underlying hu, h1, hs]
  · simp [Instr.sliceAt, Instr.slice, Instr.sliceBounds, run_underlying hu, h1, hs, hc, add_zero]
theorem wpList_sliceTo {ops : Array Oper} {rest : List Oper} {o : Oper} {a : Act} {w : World} {Q : Exit → Act → World → Prop} (hgd : o.guard = none) (t e sz : Nat) (hu : Tryz.prog.underlying t = some (.slice e)) (hs : ∀ w, (sizeOf e).run Tryz.prog w = .ok sz w)
    (x y : Operand) (ho : o.op = .slice t x none (some y) none) (A : Option Addr) (n m c : Nat) (hx : a.eval x = .slice A n c) (hy : a.eval y = .int .i64 (m : Int)) (hm : m ≤ c)
    (h : wpList Tryz.prog ops Q rest (a.put o.dst (.slice A m c)) w) : wpList Tryz.prog ops Q (o :: rest) a w := by
  refine wpList_plain hgd fun _ hK => ?_
  unfold Oper.wp execOp
  simp only [ho, hx, Option.map, hy, Sem.run_bind, Sem.run_pure, Result.andThen_ok, run_sliceTo t e sz hu w (hs w) A n m c hm]
  exact hK _ _ h
def CmK (w : World) (v : Value) (c : Cm) : Prop := ∃ A ac M mc, v = .agg (c.cs A ac M mc) ∧ RK 166 2 w A c.pts.length ac (ptsV c.pts) ∧ RK 3 1 w M c.masks.length mc (intV c.masks)
theorem CmK.below {w w' : World} {v : Value} {c : Cm} (h : CmK w v c) (hb : Below w.heap.size w w') : CmK w' v c := by
  obtain ⟨A, ac, M, mc, h1, h2, h3⟩ := h
  exact ⟨A, ac, M, mc, h1, h2.below hb, h3.below hb⟩
theorem CmdIs.k {B : Nat} {w : World} {v : Value} {c : Cm} (h : CmdIs B w v c) : CmK w v c := by
  obtain ⟨A, ac, M, mc, h1, h2, h3⟩ := h
  exact ⟨A, ac, M, mc, h1, h2.rk, h3.rk⟩
def fewC (c : Cm) : Cm := { c with masks := c.masks.take 310, pts := c.pts.take 40 }
theorem ptsV_one (l : List (Int × Int)) : ∀ v ∈ ptsV l, v.oneCell' = true := by
  induction l with
  | nil => intro v hv; cases hv
  | cons p l ih =>
    intro v hv
    simp only [ptsV, List.mem_cons] at hv
    rcases hv with rfl | rfl | hv
    · rfl
    · rfl
    · exact ih v hv
theorem ptsV_takes (l : List (Int × Int)) (m : Nat) : (ptsV l).take (m * 2) = ptsV (l.take m) := by
  induction l generalizing m with
  | nil => simp [ptsV]
  | cons p l ih =>
    cases m with
    | zero => simp [ptsV]
    | succ m =>
      rw [show (m + 1) * 2 = m * 2 + 1 + 1 by omega, List.take_succ_cons]
      simp only [ptsV, List.take_succ_cons, ih]
theorem intV_takes (l : List Int) (m : Nat) : (intV l).take (m * 1) = intV (l.take m) := by simp [intV, List.map_take]
theorem InK.takeK {w : World} {X : Option Addr} {n k m : Nat} {xs : List Value} (h : InK w X n k xs) (hm : m ≤ n) : InK w X m k (xs.take (m * k)) := by
  have hmk : m * k ≤ n * k := Nat.mul_le_mul_right k hm
  refine ⟨by rw [List.length_take, h.1]; omega, fun h0 => ?_⟩
  obtain ⟨ad, e, h1, h2⟩ := h.2 (by omega)
  exact ⟨ad, e, h1, fun i hi => by rw [h2 i (by omega), List.getElem?_take, if_pos hi]⟩

set_option maxRecDepth 100000 in
set_option maxHeartbeats 8000000 in
theorem con_few (c : Cm) (A : Option Addr) (ac : Nat) (M : Option Addr) (mc : Nat) (w : World) (hA : InK w A c.pts.length 2 (ptsV c.pts)) (hac : c.pts.length ≤ ac) (hM : InK w M c.masks.length 1 (intV c.masks)) (hmc : c.masks.length ≤ mc) :
    Calls Tryz.prog 10 #[.agg (c.cs A ac M mc)] w fun e w' => ∃ v, e = .returned v ∧ CmK w' v (fewC c) ∧ Below w.heap.size w w' := by
  obtain ⟨mn, hmn⟩ : ∃ mn, mn = c.masks.length := ⟨_, rfl⟩
  obtain ⟨pn, hpn⟩ : ∃ pn, pn = c.pts.length := ⟨_, rfl⟩
  obtain ⟨m, hm⟩ : ∃ m, m = min mn 310 := ⟨_, rfl⟩
  obtain ⟨p, hp⟩ : ∃ p, p = min pn 40 := ⟨_, rfl⟩
  have e1 : min (mn : Int) 310 = (m : Int) := by omega
  have e2 : min (pn : Int) 40 = (p : Int) := by omega
  have hm1 : m ≤ mc := by omega
  have hp1 : p ≤ ac := by omega
  have hm2 : m ≤ 310 := by omega
  have hp2 : p ≤ 40 := by omega
  have HA := hide (hA.takeK (m := p) (by omega))
  have HM := hide (hM.takeK (m := m) (by omega))
  have HL := hide (show (c.masks.take 310).length = m ∧ (c.pts.take 40).length = p ∧ c.masks.take m = c.masks.take 310 ∧ c.pts.take p = c.pts.take 40 from
    ⟨by rw [List.length_take]; omega, by rw [List.length_take]; omega, by
      rw [hm, hmn, Nat.min_comm, ← List.take_take, List.take_length], by
      rw [hp, hpn, Nat.min_comm, ← List.take_take, List.take_length]⟩)
  have hcs : c.cs A ac M mc = cmdCs c.kind ⟨c.ok, c.mkd, c.mn, c.me, c.mf, c.ms, A, pn, ac, c.qk, c.qn, c.qa, c.qb, c.qw, c.qN, c.nm, c.t, c.bits⟩ c.n M mn mc := by rw [hmn, hpn]; rfl
  rw [hcs]
  rw [ptsV_takes] at HA
  rw [intV_takes] at HM
  obtain ⟨kind, ok, mkd, mnn, me, mf, ms, pts, qk, qn, qa, qb, qw, qN, nm, t, bits, n, masks⟩ := c
  simp only at *
  clear hA hM hac hmc hm hp hcs hmn hpn
  unfold cmdCs
  obtain ⟨R, hR⟩ : ∃ R : Array Value, R = #[.int .i64 kind, .int .i64 ok, .int .i64 mkd, .string mnn, .int .i64 me, .int .i64 mf, .int .i64 ms, .slice A pn ac, .int .i64 qk, .string qn, .int .i64 qa, .int .i64 qb, .int .i64 qw, .int .i64 qN, .string nm, .int .i64 t, .int .u64 bits, .int .i64 n, .slice M mn mc] := ⟨_, rfl⟩
  have fr0 := kp (bA (b0 _) (.cells zCmd 38)) (na w R 38)
  have ft0 := na (w.alloc (.cells R 38)) zCmd 38
  have hb0 : Below w.heap.size w ((w.alloc (.cells R 38)).alloc (.cells zCmd 38)) := bA (bA (b0 w) _) _
  have hs0 : ((w.alloc (.cells R 38)).alloc (.cells zCmd 38)).heap.size = w.heap.size + 2 := by simp
  have hs1 : (w.alloc (.cells R 38)).heap.size = w.heap.size + 1 := by simp
  rw [hs1] at ft0
  have hO := OwnK.fresh (T := 3) (k := 1) ((w.alloc (.cells R 38)).alloc (.cells zCmd 38))
  have HI := hide ((HM.out.below hb0).below (bA (b0 _) (.cells #[] 3)))
  have fr1 := kp (bA (b0 _) (.cells #[] 3)) fr0
  have ft1 := kp (bA (b0 _) (.cells #[] 3)) ft0
  have hb1 : Below w.heap.size w (((w.alloc (.cells R 38)).alloc (.cells zCmd 38)).alloc (.cells #[] 3)) := bA hb0 _
  have hs2 : w.heap.size + 1 + 1 ≤ (((w.alloc (.cells R 38)).alloc (.cells zCmd 38)).alloc (.cells #[] 3)).heap.size := by simp
  simp only [World.size_alloc] at hO
  rw [hR] at fr1 ft1 hb1 hO hs2 HI
  have z1 := (rcell fr1).1
  rw [← hR]
  have FR := hide fr1
  have FT := hide ft1
  have HB1 := hide hb1
  have HO := hide hO
  have hR2 := hide hs2
  clear hs0 hs1 hb0 fr0 ft0 fr1 ft1 hb1 hO hs2
  subst hR
  go_enter Tryz.func10, Tryz.ntmps10
  go_wp2_with (first
    | (refine wpList_sliceTo rfl 36 3 1 Tryz.underlying36 (fun w => Tryz.sizeOf3 w) _ _ rfl M mn m mc rfl rfl hm1 ?_; simp only [Act.put, List.setIfInBounds_toArray, List.set_cons_zero, List.set_cons_succ])
    | (refine wpList_pushK rfl _ _ _ rfl 8 Tryz.underlying36 int_info rfl (by decide) (by decide) (w.heap.size + 1 + 1) _ 0 m [] (intV (masks.take m)) M mc rfl rfl HO.out HI.out (fun v hv => intV_cell _ v hv) (by omega) hR2.out ?_; intro v4 w4 hO4 hlow4 hsz4; rw [Nat.zero_add, List.nil_append] at hO4; obtain ⟨M4, c4, rfl, hk4⟩ := hO4.cr; have hb4 := hlow4 _ (Below.refl _ _); have f4 := (hb4.block w.heap.size (by omega)).trans FR.out; have t4 := (hb4.block (w.heap.size + 1) (by omega)).trans FT.out; have HK4 := hide hk4; have HB4 := hide (HB1.out.trans (hb4.mono (by omega))); clear z1 hlow4 hsz4 hO4 hk4 hb4 HO HI hR2 FR FT HB1)
    | (refine wpList_storeS rfl 36 3 Tryz.underlying36 _ _ rfl w.heap.size 18 38 _ M4 m c4 rfl rfl f4 (by simp) (fun w => Tryz.sizeOf36 w) ?_; generalize hT5 : setRow w4 _ _ = w5; obtain ⟨hx5, f5⟩ := fin_x (b0 _) f4 hT5; simp only [List.setIfInBounds_toArray, List.set_cons_zero, List.set_cons_succ] at f5; have t5 := kx hx5 t4 (by omega); have HB5 := hide (bX HB4.out hx5 (Nat.le_refl _)); have HK5 := hide (HK4.out.exc hx5 f4 (by decide)); have HO5 := hide (OwnK.fresh (T := 166) (k := 2) w5); have HI5 := hide ((HA.out.below HB5.out).below (bA (b0 w5) (.cells #[] 166))); have z5 := (rcell (kp (bA (b0 w5) (.cells #[] 166)) f5)).1; have hR5 := hide (show w5.heap.size ≤ (w5.alloc (.cells #[] 166)).heap.size by simp); clear hT5 hx5 f4 t4)
    | (refine wpList_sliceTo rfl 28 166 2 Tryz.underlying28 (fun w => Tryz.sizeOf166 w) _ _ rfl A pn p ac rfl rfl hp1 ?_; simp only [Act.put, List.setIfInBounds_toArray, List.set_cons_zero, List.set_cons_succ])
    | (refine wpList_pushK rfl _ _ _ rfl 16 Tryz.underlying28 pt_info rfl (by decide) (by decide) w5.heap.size _ 0 p [] (ptsV (pts.take p)) A ac rfl rfl HO5.out HI5.out (fun v hv => ptsV_one _ v hv) (by omega) hR5.out ?_; intro v6 w6 hO6 hlow6 hsz6; rw [Nat.zero_add, List.nil_append] at hO6; obtain ⟨A6, c6, rfl, hk6⟩ := hO6.cr; have hb6 := hlow6 w5 (bA (b0 w5) _); have f6 := kp hb6 f5; have t6 := kp hb6 t5; have HK6 := hide hk6; have HK56 := hide (HK5.out.below hb6); have HB6 := hide (bB HB5.out hb6); clear z5 hlow6 hsz6 hO6 hk6 hb6 HO5 HI5 hR5 f5 t5 HK5)
    | (refine wpList_storeS rfl 28 166 Tryz.underlying28 _ _ rfl w.heap.size 7 38 _ A6 p c6 rfl rfl f6 (by simp) (fun w => Tryz.sizeOf28 w) ?_; generalize hT7 : setRow w6 _ _ = w7; obtain ⟨hx7, f7⟩ := fin_x (b0 _) f6 hT7; simp only [List.setIfInBounds_toArray, List.set_cons_zero, List.set_cons_succ] at f7; have t7 := kx hx7 t6 (by omega); have HB7 := hide (bX HB6.out hx7 (Nat.le_refl _)); have HK7 := hide (HK6.out.exc hx7 f6 (by decide)); have HK57 := hide (HK56.out.exc hx7 f6 (by decide)); obtain ⟨Z, hZ⟩ : ∃ Z, Z = cmdCs kind ⟨ok, mkd, mnn, me, mf, ms, A6, p, c6, qk, qn, qa, qb, qw, qN, nm, t, bits⟩ n M4 m c4 := ⟨_, rfl⟩; have f8 : w7.heap[w.heap.size]? = some (.cells Z 38 (0, 0)) := (by rw [hZ]; simpa [cmdCs] using f7); have hZs : Z.size = 19 := (by rw [hZ]; rfl); have hZ1 : Z.all (·.oneCell') = true := (by rw [hZ]; exact cmd_one _ _ _ _ _ _); have HZ := hide hZ; clear hT7 hx7 f7 f6 t6 hZ)
    | (refine wpList_loadW rfl _ _ rfl w.heap.size 38 Z rfl f8 _ rfl Tryz.underlying38 (by rw [size48, hZs]) ?_; simp only [Act.put, List.setIfInBounds_toArray, List.set_cons_zero, List.set_cons_succ])
    | (refine wpList_storeW rfl _ _ _ rfl (w.heap.size + 1) 38 _ Z rfl rfl t7 (by rw [size48, hZs]) (by rw [hZs]; rfl) hZ1 ?_; simp only [Act.put]))
  generalize hT : setRow w7 _ Z = w9
  obtain ⟨hx9, f9⟩ := fin_x (b0 _) t7 hT
  refine bodyPost_ret (v := .agg Z) (res_cell Tryz.results10 rfl (res48 f9 hZs)) rfl ⟨_, rfl, ?_, bX HB7.out hx9 (by omega)⟩
  obtain ⟨l1, l2, l3, l4⟩ := HL.out
  have k1 := HK7.out.exc hx9 t7 (by decide)
  have k2 := HK57.out.exc hx9 t7 (by decide)
  rw [HZ.out, ← l1, ← l2]
  rw [l4] at k1
  rw [l3] at k2
  refine ⟨A6, c6, M4, c4, rfl, ?_, ?_⟩
  · show RK 166 2 w9 A6 (pts.take 40).length c6 (ptsV (pts.take 40))
    rw [l2]
    exact k1
  · show RK 3 1 w9 M4 (masks.take 310).length c4 (intV (masks.take 310))
    rw [l1]
    exact k2
end Go.Proofs.YtbiedfkmmcaplaaGreatDoor

namespace Go.Proofs.YtbiedfkmmcaplaaGreatDoor
open Go.RowKit
attribute [local go_sem] Oper.semAt_some

def longB (c : Cm) : Bool := decide (1000 < c.nm.size) || (decide (1000 < c.qn.size) || decide (1000 < c.mn.size))
set_option maxRecDepth 100000 in
set_option maxHeartbeats 4000000 in
theorem con_long (c : Cm) (A : Option Addr) (ac : Nat) (M : Option Addr) (mc : Nat) (w : World) :
    Calls Tryz.prog 11 #[.agg (c.cs A ac M mc)] w fun e w' => e = .returned (.bool (longB c)) ∧ Below w.heap.size w w' := by
  obtain ⟨kind, ok, mkd, mnn, me, mf, ms, pts, qk, qn, qa, qb, qw, qN, nm, t, bits, n, masks⟩ := c
  unfold longB Cm.cs cmdCs
  simp only
  have hb := bA (b0 w) (.cells #[.int .i64 kind, .int .i64 ok, .int .i64 mkd, .string mnn, .int .i64 me, .int .i64 mf, .int .i64 ms, .slice A pts.length ac, .int .i64 qk, .string qn, .int .i64 qa, .int .i64 qb, .int .i64 qw, .int .i64 qN, .string nm, .int .i64 t, .int .u64 bits, .int .i64 n, .slice M masks.length mc] 38)
  have d1 : decide ((1000 : Int) < (nm.size : Int)) = decide (1000 < nm.size) := by simp; omega
  have d2 : decide ((1000 : Int) < (qn.size : Int)) = decide (1000 < qn.size) := by simp; omega
  have d3 : decide ((1000 : Int) < (mnn.size : Int)) = decide (1000 < mnn.size) := by simp; omega
  generalize decide (1000 < nm.size) = x1 at *
  generalize decide (1000 < qn.size) = x2 at *
  generalize decide (1000 < mnn.size) = x3 at *
  cases x1 <;> cases x2 <;> cases x3
  all_goals
    go_enter Tryz.func11, Tryz.ntmps11
    go_wp2
    go_ret
    exact ⟨rfl, hb⟩
end Go.Proofs.YtbiedfkmmcaplaaGreatDoor

namespace Go.Proofs.YtbiedfkmmcaplaaGreatDoor
open Go.RowKit
attribute [local go_sem] Oper.semAt_some

theorem take_ne {α : Type} {l m : List α} {k : Nat} (h1 : k < l.length) (h2 : k < m.length) (hne : l[k] ≠ m[k]) : l ≠ m := by
  rintro rfl
  exact hne rfl
theorem take_eq {α : Type} {l m : List α} {k : Nat} (h : l.take k = m.take k) (h1 : k < l.length) (h2 : k < m.length) (he : l[k] = m[k]) : l.take (k + 1) = m.take (k + 1) := by
  rw [List.take_succ_eq_append_getElem h1, List.take_succ_eq_append_getElem h2, h, he]

set_option maxRecDepth 100000 in
set_option maxHeartbeats 4000000 in
theorem con_EqP (A : Option Addr) (c : Nat) (A2 : Option Addr) (c2 : Nat) (ps qs : List (Int × Int)) (w : World) (hA : InV w A (ptsV ps)) (hC : InV w A2 (ptsV qs)) (hp : ps.length ≤ 9223372036854775807) (hq : qs.length ≤ 9223372036854775807) :
    Calls Tryz.prog 86 #[.slice A ps.length c, .slice A2 qs.length c2] w fun e w' => ∃ b : Bool, e = .returned (.bool b) ∧ (b = true ↔ ps = qs) ∧ Below w.heap.size w w' := by
  have HA := hide hA
  have HC := hide hC
  clear hA hC
  by_cases hl : ps.length = qs.length
  · obtain ⟨n, hn⟩ : ∃ n, n = ps.length := ⟨_, rfl⟩
    have HL := hide (show ps.length = n ∧ qs.length = n from ⟨hn.symm, by omega⟩)
    rw [← hl, ← hn]
    rw [← hn] at hp
    clear hl hn hq
    go_enter Tryz.func86, Tryz.ntmps86
    go_wp2_with fail
    go_loopw [13] (fun v13 wr => ∃ k : Nat, v13 = .int .i64 (k : Int) ∧ k ≤ n ∧ Hid (ps.take k = qs.take k) ∧ Below w.heap.size w wr) (fun v13 _ => n - (intOf v13).toNat)
    case atStart => exact ⟨0, rfl, by omega, hide (by simp), b0 _⟩
    case round =>
      obtain ⟨k, rfl, hk, HT, hb⟩ := hrel
      by_cases hlt : k < n
      · have e1 : decide ((k : Int) < (n : Int)) = true := decide_eq_true (by omega)
        have hk1 : k < ps.length := by have := HL.out; omega
        have hk2 : k < qs.length := by have := HL.out; omega
        obtain ⟨adA, rfl, -, -⟩ := HA.out (by have := ptsV_len ps; omega)
        obtain ⟨adC, rfl, -, -⟩ := HC.out (by have := ptsV_len qs; omega)
        have PM := fun w0 (hI : Below wr.heap.size wr w0) => pts_cells HA.out (bB hb hI) k hk1
        have PN := fun w0 (hI : Below wr.heap.size wr w0) => pts_cells HC.out (bB hb hI) k hk2
        have HE := hide (fun he : ps[k] = qs[k] => take_eq HT.out hk1 hk2 he)
        have HF := hide (fun he : ps[k] ≠ qs[k] => take_ne hk1 hk2 he)
        generalize ps[k] = p at *
        generalize qs[k] = q at *
        obtain ⟨p1, p2⟩ := p
        obtain ⟨q1, q2⟩ := q
        simp only at PM PN
        clear hk1 hk2 HT
        by_cases h1 : p1 = q1
        · subst h1
          by_cases h2 : p2 = q2
          · subst h2
            have HE2 := hide (HE.out rfl)
            clear HE HF
            go_wp2_with fail
            refine Abs.wp_region_abs (Abs.cls0 _) [0, 1, 2, 3, 4, 5, 6, 7, 8] (by kernel_rfl) (by kernel_rfl) (Below.refl _ _).drew ?_
            (refine Abs.step_pure rfl rfl (fun K hK => ?_); go_simp; (try go_bits); (first | refine hK _ _ ?_ | (simp only [↓IntWalk.iteOmega]; go_simp; (try go_bits); refine hK _ _ ?_)); clear hK K)
            (refine Abs.step_pure rfl rfl (fun K hK => ?_); go_simp; (try go_bits); (first | refine hK _ _ ?_ | (simp only [↓IntWalk.iteOmega]; go_simp; (try go_bits); refine hK _ _ ?_)); clear hK K)
            (refine Abs.step_pure rfl rfl (fun K hK => ?_); go_simp; (try go_bits); (first | refine hK _ _ ?_ | (simp only [↓IntWalk.iteOmega]; go_simp; (try go_bits); refine hK _ _ ?_)); clear hK K)
            (refine Abs.step_load (v := ?_) rfl rfl (by kernel_rfl) rfl (fun w0 hI => ?_) (fun K hK => ?_); rotate_left; (· obtain ⟨zp0, zq0⟩ := PM w0 hI; obtain ⟨zp1, zq1⟩ := PN w0 hI; go_simp; rfl); (simp only [Act.put, List.setIfInBounds_toArray, List.set_cons_zero, List.set_cons_succ]; refine hK _ _ ?_; clear hK K))
            (refine Abs.step_pure rfl rfl (fun K hK => ?_); go_simp; (try go_bits); (first | refine hK _ _ ?_ | (simp only [↓IntWalk.iteOmega]; go_simp; (try go_bits); refine hK _ _ ?_)); clear hK K)
            (refine Abs.step_pure rfl rfl (fun K hK => ?_); go_simp; (try go_bits); (first | refine hK _ _ ?_ | (simp only [↓IntWalk.iteOmega]; go_simp; (try go_bits); refine hK _ _ ?_)); clear hK K)
            (refine Abs.step_pure rfl rfl (fun K hK => ?_); go_simp; (try go_bits); (first | refine hK _ _ ?_ | (simp only [↓IntWalk.iteOmega]; go_simp; (try go_bits); refine hK _ _ ?_)); clear hK K)
            (refine Abs.step_load (v := ?_) rfl rfl (by kernel_rfl) rfl (fun w0 hI => ?_) (fun K hK => ?_); rotate_left; (· obtain ⟨zp0, zq0⟩ := PM w0 hI; obtain ⟨zp1, zq1⟩ := PN w0 hI; go_simp; rfl); (simp only [Act.put, List.setIfInBounds_toArray, List.set_cons_zero, List.set_cons_succ]; refine hK _ _ ?_; clear hK K))
            (refine Abs.step_pure rfl rfl (fun K hK => ?_); go_simp; (try go_bits); (first | refine hK _ _ ?_ | (simp only [↓IntWalk.iteOmega]; go_simp; (try go_bits); refine hK _ _ ?_)); clear hK K)
            (intro w5 hb5 hx0 hx1 hx2; clear hx0 hx1 hx2; simp only [Abs.T_setF, Abs.T_addA, Abs.T_push, Abs.T_start])
            have hb6 := bB hb hb5
            go_wp2_with fail
            go_roundw
            case rel => exact ⟨k + 1, by go_num, by omega, HE2, hb6⟩
            case measure => simp [intOf]; omega
          · have HF2 := hide (HF.out (by simpa using h2))
            have h2a : (p2 == q2) = false := beq_eq_false_iff_ne.2 h2
            have h2b : decide (p2 = q2) = false := decide_eq_false h2
            clear HE HF
            go_wp2_with fail
            refine Abs.wp_region_abs (Abs.cls0 _) [0, 1, 2, 3, 4, 5, 6, 7, 8] (by kernel_rfl) (by kernel_rfl) (Below.refl _ _).drew ?_
            (refine Abs.step_pure rfl rfl (fun K hK => ?_); go_simp; (try go_bits); (first | refine hK _ _ ?_ | (simp only [↓IntWalk.iteOmega]; go_simp; (try go_bits); refine hK _ _ ?_)); clear hK K)
            (refine Abs.step_pure rfl rfl (fun K hK => ?_); go_simp; (try go_bits); (first | refine hK _ _ ?_ | (simp only [↓IntWalk.iteOmega]; go_simp; (try go_bits); refine hK _ _ ?_)); clear hK K)
            (refine Abs.step_pure rfl rfl (fun K hK => ?_); go_simp; (try go_bits); (first | refine hK _ _ ?_ | (simp only [↓IntWalk.iteOmega]; go_simp; (try go_bits); refine hK _ _ ?_)); clear hK K)
            (refine Abs.step_load (v := ?_) rfl rfl (by kernel_rfl) rfl (fun w0 hI => ?_) (fun K hK => ?_); rotate_left; (· obtain ⟨zp0, zq0⟩ := PM w0 hI; obtain ⟨zp1, zq1⟩ := PN w0 hI; go_simp; rfl); (simp only [Act.put, List.setIfInBounds_toArray, List.set_cons_zero, List.set_cons_succ]; refine hK _ _ ?_; clear hK K))
            (refine Abs.step_pure rfl rfl (fun K hK => ?_); go_simp; (try go_bits); (first | refine hK _ _ ?_ | (simp only [↓IntWalk.iteOmega]; go_simp; (try go_bits); refine hK _ _ ?_)); clear hK K)
            (refine Abs.step_pure rfl rfl (fun K hK => ?_); go_simp; (try go_bits); (first | refine hK _ _ ?_ | (simp only [↓IntWalk.iteOmega]; go_simp; (try go_bits); refine hK _ _ ?_)); clear hK K)
            (refine Abs.step_pure rfl rfl (fun K hK => ?_); go_simp; (try go_bits); (first | refine hK _ _ ?_ | (simp only [↓IntWalk.iteOmega]; go_simp; (try go_bits); refine hK _ _ ?_)); clear hK K)
            (refine Abs.step_load (v := ?_) rfl rfl (by kernel_rfl) rfl (fun w0 hI => ?_) (fun K hK => ?_); rotate_left; (· obtain ⟨zp0, zq0⟩ := PM w0 hI; obtain ⟨zp1, zq1⟩ := PN w0 hI; go_simp; rfl); (simp only [Act.put, List.setIfInBounds_toArray, List.set_cons_zero, List.set_cons_succ]; refine hK _ _ ?_; clear hK K))
            (refine Abs.step_pure rfl rfl (fun K hK => ?_); go_simp; (try go_bits); (first | refine hK _ _ ?_ | (simp only [↓IntWalk.iteOmega]; go_simp; (try go_bits); refine hK _ _ ?_)); clear hK K)
            (intro w5 hb5 hx0 hx1 hx2; clear hx0 hx1 hx2; simp only [Abs.T_setF, Abs.T_addA, Abs.T_push, Abs.T_start])
            have hb6 := bB hb hb5
            go_wp2_with fail
            go_ret
            exact ⟨_, rfl, ⟨(fun h => by cases h), fun h => absurd h HF2.out⟩, hb6⟩
        · have HF2 := hide (HF.out (by intro e; exact h1 (congrArg Prod.fst e)))
          have h1a : (p1 == q1) = false := beq_eq_false_iff_ne.2 h1
          have h1b : decide (p1 = q1) = false := decide_eq_false h1
          clear HE HF
          go_wp2_with fail
          refine Abs.wp_region_abs (Abs.cls0 _) [0, 1, 2, 3, 4, 5, 6, 7, 8] (by kernel_rfl) (by kernel_rfl) (Below.refl _ _).drew ?_
          (refine Abs.step_pure rfl rfl (fun K hK => ?_); go_simp; (try go_bits); (first | refine hK _ _ ?_ | (simp only [↓IntWalk.iteOmega]; go_simp; (try go_bits); refine hK _ _ ?_)); clear hK K)
          (refine Abs.step_pure rfl rfl (fun K hK => ?_); go_simp; (try go_bits); (first | refine hK _ _ ?_ | (simp only [↓IntWalk.iteOmega]; go_simp; (try go_bits); refine hK _ _ ?_)); clear hK K)
          (refine Abs.step_pure rfl rfl (fun K hK => ?_); go_simp; (try go_bits); (first | refine hK _ _ ?_ | (simp only [↓IntWalk.iteOmega]; go_simp; (try go_bits); refine hK _ _ ?_)); clear hK K)
          (refine Abs.step_load (v := ?_) rfl rfl (by kernel_rfl) rfl (fun w0 hI => ?_) (fun K hK => ?_); rotate_left; (· obtain ⟨zp0, zq0⟩ := PM w0 hI; obtain ⟨zp1, zq1⟩ := PN w0 hI; go_simp; rfl); (simp only [Act.put, List.setIfInBounds_toArray, List.set_cons_zero, List.set_cons_succ]; refine hK _ _ ?_; clear hK K))
          (refine Abs.step_pure rfl rfl (fun K hK => ?_); go_simp; (try go_bits); (first | refine hK _ _ ?_ | (simp only [↓IntWalk.iteOmega]; go_simp; (try go_bits); refine hK _ _ ?_)); clear hK K)
          (refine Abs.step_pure rfl rfl (fun K hK => ?_); go_simp; (try go_bits); (first | refine hK _ _ ?_ | (simp only [↓IntWalk.iteOmega]; go_simp; (try go_bits); refine hK _ _ ?_)); clear hK K)
          (refine Abs.step_pure rfl rfl (fun K hK => ?_); go_simp; (try go_bits); (first | refine hK _ _ ?_ | (simp only [↓IntWalk.iteOmega]; go_simp; (try go_bits); refine hK _ _ ?_)); clear hK K)
          (refine Abs.step_load (v := ?_) rfl rfl (by kernel_rfl) rfl (fun w0 hI => ?_) (fun K hK => ?_); rotate_left; (· obtain ⟨zp0, zq0⟩ := PM w0 hI; obtain ⟨zp1, zq1⟩ := PN w0 hI; go_simp; rfl); (simp only [Act.put, List.setIfInBounds_toArray, List.set_cons_zero, List.set_cons_succ]; refine hK _ _ ?_; clear hK K))
          (refine Abs.step_pure rfl rfl (fun K hK => ?_); go_simp; (try go_bits); (first | refine hK _ _ ?_ | (simp only [↓IntWalk.iteOmega]; go_simp; (try go_bits); refine hK _ _ ?_)); clear hK K)
          (intro w5 hb5 hx0 hx1 hx2; clear hx0 hx1 hx2; simp only [Abs.T_setF, Abs.T_addA, Abs.T_push, Abs.T_start])
          have hb6 := bB hb hb5
          go_wp2_with fail
          go_ret
          exact ⟨_, rfl, ⟨(fun h => by cases h), fun h => absurd h HF2.out⟩, hb6⟩
      · have e1 : decide ((k : Int) < (n : Int)) = false := decide_eq_false (by omega)
        have HE : Hid (ps = qs) := hide (by
          obtain ⟨l1, l2⟩ := HL.out
          have := HT.out
          rwa [List.take_of_length_le (by omega), List.take_of_length_le (by omega)] at this)
        go_wp2_with fail
        go_ret
        exact ⟨_, rfl, ⟨fun _ => HE.out, fun _ => rfl⟩, hb⟩
  · have e1 : ((ps.length : Int) != (qs.length : Int)) = true := by simp; omega
    have e2 : decide ((ps.length : Int) = (qs.length : Int)) = false := decide_eq_false (by omega)
    have e3 : ((ps.length : Int) == (qs.length : Int)) = false := beq_eq_false_iff_ne.2 (by omega)
    have HN := hide (show ps ≠ qs from fun e => hl (by rw [e]))
    clear hl
    go_enter Tryz.func86, Tryz.ntmps86
    go_wp2_with fail
    go_ret
    exact ⟨_, rfl, ⟨(fun h => by cases h), fun h => absurd h HN.out⟩, b0 _⟩

set_option maxRecDepth 100000 in
set_option maxHeartbeats 4000000 in
theorem con_EqI (A : Option Addr) (c : Nat) (A2 : Option Addr) (c2 : Nat) (ps qs : List Int) (w : World) (hA : InV w A (intV ps)) (hC : InV w A2 (intV qs)) (hp : ps.length ≤ 9223372036854775807) (hq : qs.length ≤ 9223372036854775807) :
    Calls Tryz.prog 87 #[.slice A ps.length c, .slice A2 qs.length c2] w fun e w' => ∃ b : Bool, e = .returned (.bool b) ∧ (b = true ↔ ps = qs) ∧ Below w.heap.size w w' := by
  have HA := hide hA
  have HC := hide hC
  clear hA hC
  by_cases hl : ps.length = qs.length
  · obtain ⟨n, hn⟩ : ∃ n, n = ps.length := ⟨_, rfl⟩
    have HL := hide (show ps.length = n ∧ qs.length = n from ⟨hn.symm, by omega⟩)
    rw [← hl, ← hn]
    rw [← hn] at hp
    clear hl hn hq
    go_enter Tryz.func87, Tryz.ntmps87
    go_wp2_with fail
    go_loopw [13] (fun v13 wr => ∃ k : Nat, v13 = .int .i64 (k : Int) ∧ k ≤ n ∧ Hid (ps.take k = qs.take k) ∧ Below w.heap.size w wr) (fun v13 _ => n - (intOf v13).toNat)
    case atStart => exact ⟨0, rfl, by omega, hide (by simp), b0 _⟩
    case round =>
      obtain ⟨k, rfl, hk, HT, hb⟩ := hrel
      by_cases hlt : k < n
      · have e1 : decide ((k : Int) < (n : Int)) = true := decide_eq_true (by omega)
        have hk1 : k < ps.length := by have := HL.out; omega
        have hk2 : k < qs.length := by have := HL.out; omega
        obtain ⟨adA, rfl, -, -⟩ := HA.out (by rw [intV_len]; omega)
        obtain ⟨adC, rfl, -, -⟩ := HC.out (by rw [intV_len]; omega)
        have PM : ∀ w0, Below wr.heap.size wr w0 → w0.cell? (adA.add k) = some (.int .i64 ps[k]) := fun w0 hI => by
          obtain ⟨ad', e, -, hc⟩ := (HA.out.below (bB hb hI)) (by rw [intV_len]; omega)
          obtain rfl := Option.some.inj e
          have := hc k (by rw [intV_len]; omega)
          rw [this]; simp [intV]
        have PN : ∀ w0, Below wr.heap.size wr w0 → w0.cell? (adC.add k) = some (.int .i64 qs[k]) := fun w0 hI => by
          obtain ⟨ad', e, -, hc⟩ := (HC.out.below (bB hb hI)) (by rw [intV_len]; omega)
          obtain rfl := Option.some.inj e
          have := hc k (by rw [intV_len]; omega)
          rw [this]; simp [intV]
        have HE := hide (fun he : ps[k] = qs[k] => take_eq HT.out hk1 hk2 he)
        have HF := hide (fun he : ps[k] ≠ qs[k] => take_ne hk1 hk2 he)
        generalize ps[k] = p at *
        generalize qs[k] = q at *
        clear hk1 hk2 HT
        by_cases h2 : p = q
        · subst h2
          have HE2 := hide (HE.out rfl)
          clear HE HF
          go_wp2_with fail
          refine Abs.wp_region_abs (Abs.cls0 _) [0, 1, 2, 3, 4, 5, 6, 7, 8] (by kernel_rfl) (by kernel_rfl) (Below.refl _ _).drew ?_
          (refine Abs.step_pure rfl rfl (fun K hK => ?_); go_simp; (try go_bits); (first | refine hK _ _ ?_ | (simp only [↓IntWalk.iteOmega]; go_simp; (try go_bits); refine hK _ _ ?_)); clear hK K)
          (refine Abs.step_pure rfl rfl (fun K hK => ?_); go_simp; (try go_bits); (first | refine hK _ _ ?_ | (simp only [↓IntWalk.iteOmega]; go_simp; (try go_bits); refine hK _ _ ?_)); clear hK K)
          (refine Abs.step_pure rfl rfl (fun K hK => ?_); go_simp; (try go_bits); (first | refine hK _ _ ?_ | (simp only [↓IntWalk.iteOmega]; go_simp; (try go_bits); refine hK _ _ ?_)); clear hK K)
          (refine Abs.step_load (v := ?_) rfl rfl (by kernel_rfl) rfl (fun w0 hI => ?_) (fun K hK => ?_); rotate_left; (· have z0 := PM w0 hI; have z1 := PN w0 hI; go_simp; rfl); (simp only [Act.put, List.setIfInBounds_toArray, List.set_cons_zero, List.set_cons_succ]; refine hK _ _ ?_; clear hK K))
          (refine Abs.step_pure rfl rfl (fun K hK => ?_); go_simp; (try go_bits); (first | refine hK _ _ ?_ | (simp only [↓IntWalk.iteOmega]; go_simp; (try go_bits); refine hK _ _ ?_)); clear hK K)
          (refine Abs.step_pure rfl rfl (fun K hK => ?_); go_simp; (try go_bits); (first | refine hK _ _ ?_ | (simp only [↓IntWalk.iteOmega]; go_simp; (try go_bits); refine hK _ _ ?_)); clear hK K)
          (refine Abs.step_pure rfl rfl (fun K hK => ?_); go_simp; (try go_bits); (first | refine hK _ _ ?_ | (simp only [↓IntWalk.iteOmega]; go_simp; (try go_bits); refine hK _ _ ?_)); clear hK K)
          (refine Abs.step_load (v := ?_) rfl rfl (by kernel_rfl) rfl (fun w0 hI => ?_) (fun K hK => ?_); rotate_left; (· have z0 := PM w0 hI; have z1 := PN w0 hI; go_simp; rfl); (simp only [Act.put, List.setIfInBounds_toArray, List.set_cons_zero, List.set_cons_succ]; refine hK _ _ ?_; clear hK K))
          (refine Abs.step_pure rfl rfl (fun K hK => ?_); go_simp; (try go_bits); (first | refine hK _ _ ?_ | (simp only [↓IntWalk.iteOmega]; go_simp; (try go_bits); refine hK _ _ ?_)); clear hK K)
          (intro w5 hb5 hx0 hx1 hx2; clear hx0 hx1 hx2; simp only [Abs.T_setF, Abs.T_addA, Abs.T_push, Abs.T_start])
          have hb6 := bB hb hb5
          go_wp2_with fail
          go_roundw
          case rel => exact ⟨k + 1, by go_num, by omega, HE2, hb6⟩
          case measure => simp [intOf]; omega
        · have HF2 := hide (HF.out h2)
          have h2a : (p == q) = false := beq_eq_false_iff_ne.2 h2
          have h2b : decide (p = q) = false := decide_eq_false h2
          clear HE HF
          go_wp2_with fail
          refine Abs.wp_region_abs (Abs.cls0 _) [0, 1, 2, 3, 4, 5, 6, 7, 8] (by kernel_rfl) (by kernel_rfl) (Below.refl _ _).drew ?_
          (refine Abs.step_pure rfl rfl (fun K hK => ?_); go_simp; (try go_bits); (first | refine hK _ _ ?_ | (simp only [↓IntWalk.iteOmega]; go_simp; (try go_bits); refine hK _ _ ?_)); clear hK K)
          (refine Abs.step_pure rfl rfl (fun K hK => ?_); go_simp; (try go_bits); (first | refine hK _ _ ?_ | (simp only [↓IntWalk.iteOmega]; go_simp; (try go_bits); refine hK _ _ ?_)); clear hK K)
          (refine Abs.step_pure rfl rfl (fun K hK => ?_); go_simp; (try go_bits); (first | refine hK _ _ ?_ | (simp only [↓IntWalk.iteOmega]; go_simp; (try go_bits); refine hK _ _ ?_)); clear hK K)
          (refine Abs.step_load (v := ?_) rfl rfl (by kernel_rfl) rfl (fun w0 hI => ?_) (fun K hK => ?_); rotate_left; (· have z0 := PM w0 hI; have z1 := PN w0 hI; go_simp; rfl); (simp only [Act.put, List.setIfInBounds_toArray, List.set_cons_zero, List.set_cons_succ]; refine hK _ _ ?_; clear hK K))
          (refine Abs.step_pure rfl rfl (fun K hK => ?_); go_simp; (try go_bits); (first | refine hK _ _ ?_ | (simp only [↓IntWalk.iteOmega]; go_simp; (try go_bits); refine hK _ _ ?_)); clear hK K)
          (refine Abs.step_pure rfl rfl (fun K hK => ?_); go_simp; (try go_bits); (first | refine hK _ _ ?_ | (simp only [↓IntWalk.iteOmega]; go_simp; (try go_bits); refine hK _ _ ?_)); clear hK K)
          (refine Abs.step_pure rfl rfl (fun K hK => ?_); go_simp; (try go_bits); (first | refine hK _ _ ?_ | (simp only [↓IntWalk.iteOmega]; go_simp; (try go_bits); refine hK _ _ ?_)); clear hK K)
          (refine Abs.step_load (v := ?_) rfl rfl (by kernel_rfl) rfl (fun w0 hI => ?_) (fun K hK => ?_); rotate_left; (· have z0 := PM w0 hI; have z1 := PN w0 hI; go_simp; rfl); (simp only [Act.put, List.setIfInBounds_toArray, List.set_cons_zero, List.set_cons_succ]; refine hK _ _ ?_; clear hK K))
          (refine Abs.step_pure rfl rfl (fun K hK => ?_); go_simp; (try go_bits); (first | refine hK _ _ ?_ | (simp only [↓IntWalk.iteOmega]; go_simp; (try go_bits); refine hK _ _ ?_)); clear hK K)
          (intro w5 hb5 hx0 hx1 hx2; clear hx0 hx1 hx2; simp only [Abs.T_setF, Abs.T_addA, Abs.T_push, Abs.T_start])
          have hb6 := bB hb hb5
          go_wp2_with fail
          go_ret
          exact ⟨_, rfl, ⟨(fun h => by cases h), fun h => absurd h HF2.out⟩, hb6⟩
      · have e1 : decide ((k : Int) < (n : Int)) = false := decide_eq_false (by omega)
        have HE : Hid (ps = qs) := hide (by
          obtain ⟨l1, l2⟩ := HL.out
          have := HT.out
          rwa [List.take_of_length_le (by omega), List.take_of_length_le (by omega)] at this)
        go_wp2_with fail
        go_ret
        exact ⟨_, rfl, ⟨fun _ => HE.out, fun _ => rfl⟩, hb⟩
  · have e1 : ((ps.length : Int) != (qs.length : Int)) = true := by simp; omega
    have e2 : decide ((ps.length : Int) = (qs.length : Int)) = false := decide_eq_false (by omega)
    have e3 : ((ps.length : Int) == (qs.length : Int)) = false := beq_eq_false_iff_ne.2 (by omega)
    have HN := hide (show ps ≠ qs from fun e => hl (by rw [e]))
    clear hl
    go_enter Tryz.func87, Tryz.ntmps87
    go_wp2_with fail
    go_ret
    exact ⟨_, rfl, ⟨(fun h => by cases h), fun h => absurd h HN.out⟩, b0 _⟩
end Go.Proofs.YtbiedfkmmcaplaaGreatDoor
