/- yearbookref12 at this program: Last, Bytes. -/
import Derived.Test.YtmpfbkeamihjbaaGreatRefV1
import Derived.Test.YtmpfbkeamihjbaaGreatSegR
import Derived.Test.YtmpfbkeamihjbaaGreatTail
import Derived.Deep.RegionHeld3
set_option linter.unusedSimpArgs false
set_option linter.unusedVariables false
namespace Go.Proofs.YtmpfbkeamihjbaaGreat
open Go.RowKit
attribute [local go_sem] Oper.semAt_some

set_option maxRecDepth 100000 in
/-- wpList_pushCg, as one step of a region that draws its order -/
theorem step_pushCg {kd : IntKind} {T : TypeId} {ops : Array Oper} {o : Oper} {a : Act} {w : World} {K : Act → World → Prop} {Q : Exit → Act → World → Prop} {E : Prop} (hgd : o.guard = none) (s x : Operand) (ST : TypeId)
    (ho : o.op = .call { callee := .builtin .append, args := #[s, x], argTypes := #[ST, ST] }) (bytes : Nat) (hST : Tryz.prog.underlying ST = some (.slice T)) (info : (Tryz.prog.info? T).map (fun i => (i.zero, i.size, i.bytes)) = some (some (.int kd 0), 1, bytes)) (hby : bytes ≤ 8) (B : Nat) (v : Value) (l m : List Int) (A : Option Addr) (c : Nat)
    (hs : a.eval s = v) (hx : a.eval x = .slice A m.length c) (hown : OwnC kd T B w v l) (hr : InC kd w A m) (hlen : l.length + m.length ≤ 1048576) (hB : B ≤ w.heap.size)
    (h : ∀ v' w', OwnC kd T B w' v' (l ++ m) → (∀ w0 : World, Below B w0 w → Below B w0 w') → (∀ (g : Nat) (cs : Array Value) (t : TypeId), w.heap[g]? = some (.cells cs t (0, 0)) → t ≠ T → w'.heap[g]? = some (.cells cs t (0, 0))) → w.heap.size ≤ w'.heap.size → K (a.put o.dst v') w') :
    if Region.wanted o (yielded ops a.tmps) = true then Oper.wp Tryz.prog o a w K Q else E := by
  obtain ⟨v', w', hrun, h2, h3, h5⟩ := pushC_run w ST o.type bytes hST info hby hown hr hlen hB
  have hw : Region.wanted o (yielded ops a.tmps) = true := by simp [Region.wanted, hgd]
  rw [if_pos hw]
  unfold Oper.wp execOp
  simp only [ho, resolve, invoke, builtin, Sem.run_bind, Sem.run_pure, Result.andThen_ok, List.map_toArray, List.map_cons, List.map_nil, hs, hx]
  rw [hrun]
  exact h v' w' h2 (fun w0 hb => hb.grown h3 hB hown.lt) (fun g cs t hg ht => grown_other (fun k hk => hown.at_block hk) h3 hg ht) h3.size

set_option maxRecDepth 100000 in
theorem ref12_Last (f s n : Int) (hf : 0 ≤ f ∧ f ≤ 1125899906842624) (hs : 0 ≤ s ∧ s ≤ 281474976710656) (hn : 0 ≤ n ∧ n ≤ 256) (w : World) :
    Calls Tryz.prog 38 #[.agg #[.int .i64 f, .int .i64 s, .int .i64 n]] w fun e w' => e = .returned (.int .i64 (rlast ⟨f, s, n⟩)) ∧ Below w.heap.size w w' := by
  obtain ⟨p, hp⟩ : ∃ p, (n - 1) * s = p := ⟨_, rfl⟩
  have hp0 : -281474976710656 ≤ p ∧ p ≤ 256 * 281474976710656 := by
    rw [← hp]
    by_cases h0 : n = 0
    · subst h0
      simp only [Int.zero_sub, Int.neg_mul, Int.one_mul]
      omega
    · have h1 := Int.mul_nonneg (show 0 ≤ n - 1 by omega) hs.1
      have h2 := Int.mul_le_mul_of_nonneg_right (show n - 1 ≤ 256 by omega) hs.1
      omega
  have hres : Hid (rlast ⟨f, s, n⟩ = f + p) := hide (by show f + (n - 1) * s = _; rw [hp])
  have hw0 : wrap64 (n - 1) = n - 1 := by unfold wrap64; omega
  have hw1 : wrap64 p = p := by unfold wrap64; omega
  have hw2 : wrap64 (f + p) = f + p := by unfold wrap64; omega
  go_enter Tryz.func38, Tryz.ntmps38
  go_wp2
  go_ret
  exact ⟨by rw [hres.out] <;> simp [hw0, hw1, hw2, hp], (bA (b0 w) (.cells #[.int .i64 f, .int .i64 s, .int .i64 n] 46))⟩

def SlY (ys : List Int) (v : Value) (w : World) : Prop := ∃ A c n, v = .slice A n c ∧ n = ys.length ∧ YR w A c ys
theorem SlY.yr {ys : List Int} {A : Option Addr} {n c : Nat} {w : World} (h : SlY ys (.slice A n c) w) : n = ys.length ∧ YR w A c ys := by
  obtain ⟨A', c', n', e, h1, h2⟩ := h
  injection e with e1 e2 e3
  subst e1 e2 e3
  exact ⟨h1, h2⟩
theorem Cl_SlY (ys : List Int) {v : Value} : Abs.Cl (fun _ => False) (SlY ys v) := by
  intro w w' ⟨A, c, n, e, hn, hr⟩ h
  refine ⟨A, c, n, e, hn, hr.cap, hr.top, fun hl => ?_⟩
  obtain ⟨g, o, cur, e1, hg, hc⟩ := hr.mem hl
  exact ⟨g, o, cur, e1, (h.block g (Array.getElem?_eq_some_iff.1 hg).1 (fun hf => hf)).trans hg, hc⟩
theorem GivesY.sl {l : List Int} {w w' : World} {e : Ending} (h : GivesY l w e w') : ∃ v, e = .returned v ∧ Below w.heap.size w w' ∧ SlY l v w' := by
  obtain ⟨A, c, n, rfl, hn, hv, hb⟩ := h
  exact ⟨_, rfl, hb, A, c, n, rfl, hn.out, hv⟩
theorem OwnC.lit {kd : IntKind} {T : TypeId} {B g : Nat} {w : World} {x : Int} (h : w.heap[g]? = some (.cells #[.int kd x] T (0, 0))) (hB : B ≤ g) : OwnC kd T B w (.slice (some ⟨g, 0, none⟩) 1 1) [x] :=
  ⟨rfl, .inr ⟨g, 1, _, rfl, hB, h, Nat.le_refl _, by decide, rfl, rfl⟩⟩

/-- the time from which a run's first one is told -/
def frm (l : List Rn) : Nat → Int
  | 0 => 0
  | k + 1 => rlast (rn l k)
theorem wRs_at {l : List Rn} {k : Nat} (h : k < l.length) : wRs (frm l k) (l.drop k) = wR1 (frm l k) (rn l k) ++ wRs (frm l (k + 1)) (l.drop (k + 1)) := by
  rw [List.drop_eq_getElem_cons h, rn_eq h, wRs]
  rfl
theorem frm_le {l : List Rn} (h : ∀ i, i < l.length → rnAt l i = true) {k : Nat} (hk : k < l.length) : 0 ≤ frm l k ∧ frm l k ≤ (rn l k).f := by
  have q := rnIs_spec (rnAt_spec (h k hk)).1
  cases k with
  | zero => exact ⟨Int.le_refl _, q.2.2.1⟩
  | succ k =>
    have q2 := rnIs_spec (rnAt_spec (h k (by omega))).1
    refine ⟨?_, ?_⟩
    · show 0 ≤ (rn l k).f + ((rn l k).n - 1) * (rn l k).s
      have := Int.mul_nonneg (show 0 ≤ (rn l k).n - 1 by omega) q2.2.2.2.2.1
      omega
    · have := from_le h hk (by omega)
      simpa [frm] using this
theorem wVs_at {vs : List Int} {k : Nat} {a : Int} (h : k < vs.length) : wVs a (vs.drop k) = ub (fold (vs[k] - a)) ++ wVs vs[k] (vs.drop (k + 1)) := by
  rw [List.drop_eq_getElem_cons h, wVs]
def frv (vs : List Int) : Nat → Int
  | 0 => 0
  | k + 1 => vs.getD k 0

def hdrY (kd er : Int) (l : List Rn) : List Int := [kd] ++ ub er.toNat ++ ub l.length
theorem wSeg_hdr (s : Sg) : wSeg s = hdrY s.kd s.er s.l ++ wRs 0 s.l ++ wL s.kd s.q ++ wVs 0 s.vs := by
  unfold wSeg hdrY wRuns
  simp [List.append_assoc]

section
variable (RA VA : Option Addr) (rc vc : Nat) (l : List Rn) (vs : List Int) (kd A R N D er : Int)
set_option maxRecDepth 100000 in
set_option maxHeartbeats 16000000 in
theorem ref12_Bytes (h : sgB ⟨kd, l, ⟨A, R, N, D⟩, vs, er⟩ = true) (w : World) (hR : RR w RA rc l) (hV : VR w VA vc vs) :
    Calls Tryz.prog 13 #[.agg #[.int .i64 kd, .slice RA l.length rc, .int .i64 A, .int .i64 R, .int .i64 N, .int .i64 D, .slice VA vs.length vc, .int .i64 er]] w (GivesY (wSeg ⟨kd, l, ⟨A, R, N, D⟩, vs, er⟩) w) := by
  have ok := sg_ok h
  obtain ⟨k1, k4, e0, e1, rn0, A0, A1, N0, N1, R0, R1, D0, D1, va, vl, v4, q4⟩ := ok
  simp only at k1 k4 e0 e1 rn0 A0 A1 N0 N1 R0 R1 D0 D1 va vl v4 q4
  obtain ⟨l0, l1, lat, lsum⟩ := rnB_spec rn0
  have HR := hide hR
  have HV := hide hV
  have HSeg := hide (wSeg_hdr ⟨kd, l, ⟨A, R, N, D⟩, vs, er⟩)
  have HLen : Hid ((hdrY kd er l ++ wRs 0 l).length ≤ 5000) := hide (by
    have h1 := wRs_len l 0 (rn_mem lat) (Int.le_refl _)
    have h2 : (ub er.toNat).length ≤ 10 := ub_ten (by omega)
    have h3 : (ub l.length).length ≤ 10 := ub_ten (by omega)
    unfold hdrY
    simp only [List.length_append, List.length_cons, List.length_nil]
    omega)
  have HAt := hide lat
  have HVa := hide va
  have hvv4 := hide v4
  have HQ4 := hide q4
  have cE := ref02_Bytes er.toNat (by omega) er (by omega)
  have cL := ref02_Bytes l.length (by omega) _ rfl
  have hwk : IntKind.u8.wrap kd = kd := by simp [IntKind.wrap, IntKind.bits, IntKind.signed]; omega
  have hwe : IntKind.u64.wrap er = er := by simp [IntKind.wrap, IntKind.bits, IntKind.signed]; omega
  have hwl : IntKind.u64.wrap (l.length : Int) = (l.length : Int) := by simp [IntKind.wrap, IntKind.bits, IntKind.signed]; omega
  have HwE : Hid ((ub er.toNat).length ≤ 10 ∧ (ub l.length).length ≤ 10) := hide ⟨ub_ten (by omega), ub_ten (by omega)⟩
  clear h hR hV rn0 lat va v4 q4 lsum
  go_enter Tryz.func13, Tryz.ntmps13
  go_wp2_with fail
  have f_s1 := (na w #[.int .i64 kd, .slice RA l.length rc, .int .i64 A, .int .i64 R, .int .i64 N, .int .i64 D, .slice VA vs.length vc, .int .i64 er] 27)
  have hB1 := (bA (b0 w) (.cells #[.int .i64 kd, .slice RA l.length rc, .int .i64 A, .int .i64 R, .int .i64 N, .int .i64 D, .slice VA vs.length vc, .int .i64 er] 27))
  have ls1 := (rcell f_s1).2.2
  refine Abs.wp_region_tail (Abs.cls0 _) [4, 5, 6, 7, 0, 1, 2, 3] 8 (by kernel_rfl) (by kernel_rfl) (Below.refl _ _).drew ?_
  repeat (first | (refine Abs.step_pure rfl rfl (fun K hK => ?_); go_simp; (try go_bits); (first | refine hK _ _ ?_ | (simp only [↓IntWalk.iteOmega]; go_simp; (try go_bits); refine hK _ _ ?_)); clear hK K) | (refine Abs.step_load (v := ?_) rfl rfl (by kernel_rfl) rfl (fun w0 hI => ?_) (fun K hK => ?_); rotate_left; (· have z0 := (rcell (kp hI (f_s1))).1; go_simp; rfl); (simp only [Act.put, List.setIfInBounds_toArray, List.set_cons_zero, List.set_cons_succ]; refine hK _ _ ?_; clear hK K)) | (refine Abs.step_skip rfl rfl (fun K hK => ?_); (simp only [Act.put, List.setIfInBounds_toArray, List.set_cons_zero, List.set_cons_succ]; refine hK _ _ ?_; clear hK K)))
  (refine Abs.step_call (f := ?_) (args := ?_) rfl rfl rfl rfl (SlY (ub er.toNat)) (fun _ => Cl_SlY _) (fun w0 => ?_) (fun w0 hI hF => ?_) (fun K hK v w0 hv => ?_); rotate_left 2; (· go_simp; (constructor <;> rfl)); (· exact (cE w0).mono (fun _ _ h => h.sl)); (obtain ⟨A1', d1', n1', rfl, -⟩ := hv; clear w0; simp only [Act.put, List.setIfInBounds_toArray, List.set_cons_zero, List.set_cons_succ]; refine hK _ _ ?_; clear hK K))
  repeat (first | (refine Abs.step_pure rfl rfl (fun K hK => ?_); go_simp; (try go_bits); (first | refine hK _ _ ?_ | (simp only [↓IntWalk.iteOmega]; go_simp; (try go_bits); refine hK _ _ ?_)); clear hK K) | (refine Abs.step_load (v := ?_) rfl rfl (by kernel_rfl) rfl (fun w0 hI => ?_) (fun K hK => ?_); rotate_left; (· have z0 := (rcell (kp hI (f_s1))).1; go_simp; rfl); (simp only [Act.put, List.setIfInBounds_toArray, List.set_cons_zero, List.set_cons_succ]; refine hK _ _ ?_; clear hK K)) | (refine Abs.step_skip rfl rfl (fun K hK => ?_); (simp only [Act.put, List.setIfInBounds_toArray, List.set_cons_zero, List.set_cons_succ]; refine hK _ _ ?_; clear hK K)))
  (refine Abs.step_new (f := fun g => .slice (some ⟨g, 0, none⟩) 1 1) (obj := .cells #[.int .u8 kd] 5) rfl rfl rfl rfl (fun w0 => ?_) (fun K hK g_x hv_x hu_x => ?_); (· go_simp; try rfl); (simp only [Act.put, List.setIfInBounds_toArray, List.set_cons_zero, List.set_cons_succ]; refine hK _ _ ?_; clear hK K))
  intro wx bx hF hx1 hx2
  have hlit := (hF 3).2 rfl
  have hsl := SlY.yr ((hF 7).1.2 rfl)
  clear hx1 hx2 hF
  simp only [Abs.T_setF, Abs.T_addA, Abs.T_push, Abs.T_start, List.drop_succ_cons, List.drop_zero]
  have Bx : Below w.heap.size w wx := bB hB1 bx
  have fs0 := kp bx (f_s1)
  have hs_x := leB hv_x
  simp only [World.size_alloc] at hs_x
  have ox : OwnC .u8 5 w.heap.size wx _ [kd] := OwnC.lit hlit (by omega)
  have klx : ([kd] : List Int).length + (ub er.toNat).length ≤ 1048576 := by have := HwE.out.1; simp; omega
  obtain ⟨rfl, hy⟩ := hsl
  refine wpList_pushCg rfl _ _ 30 rfl 1 Tryz.underlying30 byte_info (by decide) w.heap.size _ [kd] (ub er.toNat) _ _ rfl rfl ox hy.inC klx Bx.size ?_
  intro vy wy oy hby hky hsy
  have By := hby _ Bx
  have fs1 := hky _ _ _ fs0 (by decide)
  clear hby hky hlit ox hv_x hu_x hy klx fs0
  obtain ⟨zs_a, zs_b, ls2⟩ := rcell fs1
  go_wp2_with fail
  refine (cL _).mono ?_
  rintro e wa1 ⟨Aa1, ca1, na1, rfl, hm1, hv1, ba1⟩
  obtain rfl := hm1.out
  have oa1 := oy.lift ba1
  have Ba1 := bB By ba1
  have kl1 : ([kd] ++ ub er.toNat).length + (ub l.length).length ≤ 1048576 := by have := HwE.out; simp; omega
  go_wp2_with (at_builtin; refine wpList_pushCg rfl _ _ 30 rfl 1 Tryz.underlying30 byte_info (by decide) w.heap.size _ ([kd] ++ ub er.toNat) (ub l.length) _ _ rfl rfl oa1 hv1.inC kl1 Ba1.size ?_; intro v1 wb1 ob1 hb1 hk1 hs1; have Bb1 := hb1 _ Ba1; have fs2 := hk1 _ _ _ (kp ba1 fs1) (by decide); obtain ⟨yfs2_a, yfs2_b, -⟩ := rcell fs2)
  clear yfs2_a yfs2_b
  clear hb1 hk1 hv1 oa1 kl1
  obtain ⟨zs_a, zs_b, ls3⟩ := rcell fs2
  go_loopw [3, 28] (fun vo vi wr => ∃ (k : Nat) (acc : List Int) (v0 : Value), v0 = vo ∧ vi = .int .i64 k ∧ k ≤ l.length ∧ Hid (hdrY kd er l ++ wRs 0 l = acc ++ wRs (frm l k) (l.drop k)) ∧ OwnC .u8 5 w.heap.size wr v0 acc ∧ wr.heap[w.heap.size]? = some (.cells #[.int .i64 kd, .slice RA l.length rc, .int .i64 A, .int .i64 R, .int .i64 N, .int .i64 D, .slice VA vs.length vc, .int .i64 er] 27 (0, 0)) ∧ Below w.heap.size w wr) (fun _ vi _ => l.length - (intOf vi).toNat)
  case atStart => exact ⟨0, _, _, rfl, rfl, by omega, hide rfl, ob1, fs2, Bb1⟩
  case round =>
    obtain ⟨k, acc, v0, rfl, rfl, hk, hP, ho, j1, hb⟩ := hrel
    have hal : acc.length ≤ 5000 := by
      have h1 := HLen.out
      rw [hP.out, List.length_append] at h1
      omega
    by_cases hlt : k < l.length
    · obtain ⟨g, oo, cur, rfl, hg, hcc⟩ := HR.out.mem (by omega)
      have hcap := HR.out.cap
      have htop := HR.out.top
      obtain ⟨z1, z2, z3⟩ := hcc k hlt
      rw [rn_eq hlt] at z1 z2 z3
      have hgr := kp hb hg
      have q := rnIs_spec (rnAt_spec (HAt.out k hlt)).1
      have hfl := frm_le HAt.out hlt
      have hst := hide (wRs_at hlt)
      have hfs := hide (show frm l (k + 1) = rlast (rn l k) from rfl)
      rcases k with _ | j
      · simp only [Nat.zero_mul, Nat.add_zero] at z1 z2 z3
        have hfe : frm l 0 = 0 := rfl
        rw [hfe] at hst hP hfl
        generalize hrr : rn l (0) = r at *
        have HRR := hide hrr
        clear hrr
        obtain ⟨f, s, n⟩ := r
        simp only at z1 z2 z3 q hfl
        have hrl := hfs
        have HCC := hide hcc
        clear hcc
        have hd : IntKind.u64.wrap f = f := by simp [IntKind.wrap, IntKind.bits, IntKind.signed]; omega
        have hdw : wrap64 f = f := by unfold wrap64; omega
        have hn' : IntKind.u64.wrap n = n := by simp [IntKind.wrap, IntKind.bits, IntKind.signed]; omega
        have hs' : IntKind.u64.wrap s = s := by simp [IntKind.wrap, IntKind.bits, IntKind.signed]; omega
        have c1 := ref02_Bytes f.toNat (by omega) f (by omega)
        have c2 := ref02_Bytes n.toNat (by omega) n (by omega)
        have c3 := ref02_Bytes s.toNat (by omega) s (by omega)
        have u1 : Hid ((ub f.toNat).length ≤ 10 ∧ (ub n.toNat).length ≤ 10 ∧ (ub s.toNat).length ≤ 10) := hide ⟨ub_ten (by omega), ub_ten (by omega), ub_ten (by omega)⟩
        by_cases hn1 : 1 < n
        · have dn : decide (1 < n) = true := decide_eq_true hn1
          have hP2 : Hid (hdrY kd er l ++ wRs 0 l = (acc ++ ub f.toNat ++ ub n.toNat ++ ub s.toNat) ++ wRs (frm l (0 + 1)) (l.drop (0 + 1))) := hide (by
            rw [hP.out, hst.out, wR1]
            simp only
            rw [if_neg (by omega)]
            simp [List.append_assoc])
          obtain ⟨zs_a, zs_b, ls4⟩ := rcell j1
          obtain ⟨zg_a, zg_b, lg5⟩ := rcell hgr
          go_wp2_with fail
          have fq := (ka (j1) (.cells #[.int .i64 f, .int .i64 s, .int .i64 n] 46))
          have fr := (na wr #[.int .i64 f, .int .i64 s, .int .i64 n] 46)
          have Bq := (bA hb (.cells #[.int .i64 f, .int .i64 s, .int .i64 n] 46))
          have oq := ho.lift (bA (b0 wr) (.cells #[.int .i64 f, .int .i64 s, .int .i64 n] 46))
          refine (c1 _).mono ?_
          rintro e wa2 ⟨Aa2, ca2, na2, rfl, hm2, hv2, ba2⟩
          obtain rfl := hm2.out
          have oa2 := oq.lift ba2
          have Ba2 := bB Bq ba2
          have kl2 : (acc).length + (ub f.toNat).length ≤ 1048576 := by have := u1.out; omega
          go_wp2_with (at_builtin; refine wpList_pushCg rfl _ _ 30 rfl 1 Tryz.underlying30 byte_info (by decide) w.heap.size _ (acc) (ub f.toNat) _ _ rfl rfl oa2 hv2.inC kl2 Ba2.size ?_; intro v2 wb2 ob2 hb2 hk2 hs2; have Bb2 := hb2 _ Ba2; have fs3 := hk2 _ _ _ (kp ba2 fq) (by decide); obtain ⟨yfs3_a, yfs3_b, -⟩ := rcell fs3; have fr3 := hk2 _ _ _ (kp ba2 fr) (by decide); obtain ⟨yfr3_a, yfr3_b, -⟩ := rcell fr3)
          clear yfs3_a yfs3_b
          clear yfr3_a yfr3_b
          clear hb2 hk2 hv2 oa2 kl2
          obtain ⟨zs_a, zs_b, ls6⟩ := rcell fs3
          obtain ⟨zr_a, zr_b, lr7⟩ := rcell fr3
          refine (c2 _).mono ?_
          rintro e wa3 ⟨Aa3, ca3, na3, rfl, hm3, hv3, ba3⟩
          obtain rfl := hm3.out
          have oa3 := ob2.lift ba3
          have Ba3 := bB Bb2 ba3
          have kl3 : (acc ++ ub f.toNat).length + (ub n.toNat).length ≤ 1048576 := by have := u1.out; simp; omega
          go_wp2_with (at_builtin; refine wpList_pushCg rfl _ _ 30 rfl 1 Tryz.underlying30 byte_info (by decide) w.heap.size _ (acc ++ ub f.toNat) (ub n.toNat) _ _ rfl rfl oa3 hv3.inC kl3 Ba3.size ?_; intro v3 wb3 ob3 hb3 hk3 hs3; have Bb3 := hb3 _ Ba3; have fs4 := hk3 _ _ _ (kp ba3 fs3) (by decide); obtain ⟨yfs4_a, yfs4_b, -⟩ := rcell fs4; have fr4 := hk3 _ _ _ (kp ba3 fr3) (by decide); obtain ⟨yfr4_a, yfr4_b, -⟩ := rcell fr4)
          clear yfs4_a yfs4_b
          clear yfr4_a yfr4_b
          clear hb3 hk3 hv3 oa3 kl3
          obtain ⟨zs_a, zs_b, ls8⟩ := rcell fs4
          obtain ⟨zr_a, zr_b, lr9⟩ := rcell fr4
          refine (c3 _).mono ?_
          rintro e wa4 ⟨Aa4, ca4, na4, rfl, hm4, hv4, ba4⟩
          obtain rfl := hm4.out
          have oa4 := ob3.lift ba4
          have Ba4 := bB Bb3 ba4
          have kl4 : (acc ++ ub f.toNat ++ ub n.toNat).length + (ub s.toNat).length ≤ 1048576 := by have := u1.out; simp; omega
          go_wp2_with (at_builtin; refine wpList_pushCg rfl _ _ 30 rfl 1 Tryz.underlying30 byte_info (by decide) w.heap.size _ (acc ++ ub f.toNat ++ ub n.toNat) (ub s.toNat) _ _ rfl rfl oa4 hv4.inC kl4 Ba4.size ?_; intro v4 wb4 ob4 hb4 hk4 hs4; have Bb4 := hb4 _ Ba4; have fs5 := hk4 _ _ _ (kp ba4 fs4) (by decide); obtain ⟨yfs5_a, yfs5_b, -⟩ := rcell fs5)
          clear yfs5_a yfs5_b
          clear hb4 hk4 hv4 oa4 kl4
          go_roundw
          case rel => exact ⟨0 + 1, _, _, rfl, by go_num, by omega, hP2, ob4, fs5, Bb4⟩
          case measure => simp [intOf] <;> omega
        · have dn : decide (1 < n) = false := decide_eq_false hn1
          have hP2 : Hid (hdrY kd er l ++ wRs 0 l = (acc ++ ub f.toNat ++ ub n.toNat) ++ wRs (frm l (0 + 1)) (l.drop (0 + 1))) := hide (by
            rw [hP.out, hst.out, wR1]
            simp only
            rw [if_pos (by omega)]
            simp [List.append_assoc])
          obtain ⟨zs_a, zs_b, ls10⟩ := rcell j1
          obtain ⟨zg_a, zg_b, lg11⟩ := rcell hgr
          go_wp2_with fail
          have fq := (ka (j1) (.cells #[.int .i64 f, .int .i64 s, .int .i64 n] 46))
          have fr := (na wr #[.int .i64 f, .int .i64 s, .int .i64 n] 46)
          have Bq := (bA hb (.cells #[.int .i64 f, .int .i64 s, .int .i64 n] 46))
          have oq := ho.lift (bA (b0 wr) (.cells #[.int .i64 f, .int .i64 s, .int .i64 n] 46))
          refine (c1 _).mono ?_
          rintro e wa5 ⟨Aa5, ca5, na5, rfl, hm5, hv5, ba5⟩
          obtain rfl := hm5.out
          have oa5 := oq.lift ba5
          have Ba5 := bB Bq ba5
          have kl5 : (acc).length + (ub f.toNat).length ≤ 1048576 := by have := u1.out; omega
          go_wp2_with (at_builtin; refine wpList_pushCg rfl _ _ 30 rfl 1 Tryz.underlying30 byte_info (by decide) w.heap.size _ (acc) (ub f.toNat) _ _ rfl rfl oa5 hv5.inC kl5 Ba5.size ?_; intro v5 wb5 ob5 hb5 hk5 hs5; have Bb5 := hb5 _ Ba5; have fs3 := hk5 _ _ _ (kp ba5 fq) (by decide); obtain ⟨yfs3_a, yfs3_b, -⟩ := rcell fs3; have fr3 := hk5 _ _ _ (kp ba5 fr) (by decide); obtain ⟨yfr3_a, yfr3_b, -⟩ := rcell fr3)
          clear yfs3_a yfs3_b
          clear yfr3_a yfr3_b
          clear hb5 hk5 hv5 oa5 kl5
          obtain ⟨zs_a, zs_b, ls12⟩ := rcell fs3
          obtain ⟨zr_a, zr_b, lr13⟩ := rcell fr3
          refine (c2 _).mono ?_
          rintro e wa6 ⟨Aa6, ca6, na6, rfl, hm6, hv6, ba6⟩
          obtain rfl := hm6.out
          have oa6 := ob5.lift ba6
          have Ba6 := bB Bb5 ba6
          have kl6 : (acc ++ ub f.toNat).length + (ub n.toNat).length ≤ 1048576 := by have := u1.out; simp; omega
          go_wp2_with (at_builtin; refine wpList_pushCg rfl _ _ 30 rfl 1 Tryz.underlying30 byte_info (by decide) w.heap.size _ (acc ++ ub f.toNat) (ub n.toNat) _ _ rfl rfl oa6 hv6.inC kl6 Ba6.size ?_; intro v6 wb6 ob6 hb6 hk6 hs6; have Bb6 := hb6 _ Ba6; have fs4 := hk6 _ _ _ (kp ba6 fs3) (by decide); obtain ⟨yfs4_a, yfs4_b, -⟩ := rcell fs4; have fr4 := hk6 _ _ _ (kp ba6 fr3) (by decide); obtain ⟨yfr4_a, yfr4_b, -⟩ := rcell fr4)
          clear yfs4_a yfs4_b
          clear yfr4_a yfr4_b
          clear hb6 hk6 hv6 oa6 kl6
          obtain ⟨zs_a, zs_b, ls14⟩ := rcell fs4
          obtain ⟨zr_a, zr_b, lr15⟩ := rcell fr4
          go_roundw
          case rel => exact ⟨0 + 1, _, _, rfl, by go_num, by omega, hP2, ob6, fs4, Bb6⟩
          case measure => simp [intOf] <;> omega
      · obtain ⟨y1, y2, y3⟩ := hcc j (by omega)
        rw [rn_eq (show j < l.length by omega)] at y1 y2 y3
        have q' := rnIs_spec (rnAt_spec (HAt.out j (by omega))).1
        have cP := fun w => ref12_Last (rn l j).f (rn l j).s (rn l j).n ⟨q'.2.2.1, by omega⟩ ⟨q'.2.2.2.2.1, q'.2.2.2.2.2⟩ ⟨by omega, by omega⟩ w
        rw [show (⟨(rn l j).f, (rn l j).s, (rn l j).n⟩ : Rn) = rn l j from rfl, show rlast (rn l j) = frm l (j + 1) from rfl] at cP
        generalize frm l (j + 1) = a at *
        generalize rn l j = p at *
        obtain ⟨pf, ps, pn⟩ := p
        simp only at y1 y2 y3
        clear q'
        generalize hrr : rn l (j + 1) = r at *
        have HRR := hide hrr
        clear hrr
        obtain ⟨f, s, n⟩ := r
        simp only at z1 z2 z3 q hfl
        have hrl := hfs
        have HCC := hide hcc
        clear hcc
        have hd : IntKind.u64.wrap (f - a) = f - a := by simp [IntKind.wrap, IntKind.bits, IntKind.signed]; omega
        have hdw : wrap64 (f - a) = f - a := by unfold wrap64; omega
        have hn' : IntKind.u64.wrap n = n := by simp [IntKind.wrap, IntKind.bits, IntKind.signed]; omega
        have hs' : IntKind.u64.wrap s = s := by simp [IntKind.wrap, IntKind.bits, IntKind.signed]; omega
        have c1 := ref02_Bytes (f - a).toNat (by omega) (f - a) (by omega)
        have c2 := ref02_Bytes n.toNat (by omega) n (by omega)
        have c3 := ref02_Bytes s.toNat (by omega) s (by omega)
        have u1 : Hid ((ub (f - a).toNat).length ≤ 10 ∧ (ub n.toNat).length ≤ 10 ∧ (ub s.toNat).length ≤ 10) := hide ⟨ub_ten (by omega), ub_ten (by omega), ub_ten (by omega)⟩
        by_cases hn1 : 1 < n
        · have dn : decide (1 < n) = true := decide_eq_true hn1
          have hP2 : Hid (hdrY kd er l ++ wRs 0 l = (acc ++ ub (f - a).toNat ++ ub n.toNat ++ ub s.toNat) ++ wRs (frm l (j + 1 + 1)) (l.drop (j + 1 + 1))) := hide (by
            rw [hP.out, hst.out, wR1]
            simp only
            rw [if_neg (by omega)]
            simp [List.append_assoc])
          obtain ⟨zs_a, zs_b, ls16⟩ := rcell j1
          obtain ⟨zg_a, zg_b, lg17⟩ := rcell hgr
          go_wp2_with fail
          refine (cP _).mono ?_
          rintro e wq ⟨rfl, bq⟩
          have fq := kp bq (ka (j1) (.cells #[.int .i64 f, .int .i64 s, .int .i64 n] 46))
          have fr := kp bq (na wr #[.int .i64 f, .int .i64 s, .int .i64 n] 46)
          have Bq := bB (bA hb (.cells #[.int .i64 f, .int .i64 s, .int .i64 n] 46)) bq
          have oq := (ho.lift (bA (b0 wr) (.cells #[.int .i64 f, .int .i64 s, .int .i64 n] 46))).lift bq
          obtain ⟨zs_a, zs_b, ls18⟩ := rcell fq
          obtain ⟨zr_a, zr_b, lr19⟩ := rcell fr
          go_wp2_with fail
          refine (c1 _).mono ?_
          rintro e wa7 ⟨Aa7, ca7, na7, rfl, hm7, hv7, ba7⟩
          obtain rfl := hm7.out
          have oa7 := oq.lift ba7
          have Ba7 := bB Bq ba7
          have kl7 : (acc).length + (ub (f - a).toNat).length ≤ 1048576 := by have := u1.out; omega
          go_wp2_with (at_builtin; refine wpList_pushCg rfl _ _ 30 rfl 1 Tryz.underlying30 byte_info (by decide) w.heap.size _ (acc) (ub (f - a).toNat) _ _ rfl rfl oa7 hv7.inC kl7 Ba7.size ?_; intro v7 wb7 ob7 hb7 hk7 hs7; have Bb7 := hb7 _ Ba7; have fs3 := hk7 _ _ _ (kp ba7 fq) (by decide); obtain ⟨yfs3_a, yfs3_b, -⟩ := rcell fs3; have fr3 := hk7 _ _ _ (kp ba7 fr) (by decide); obtain ⟨yfr3_a, yfr3_b, -⟩ := rcell fr3)
          clear yfs3_a yfs3_b
          clear yfr3_a yfr3_b
          clear hb7 hk7 hv7 oa7 kl7
          obtain ⟨zs_a, zs_b, ls20⟩ := rcell fs3
          obtain ⟨zr_a, zr_b, lr21⟩ := rcell fr3
          refine (c2 _).mono ?_
          rintro e wa8 ⟨Aa8, ca8, na8, rfl, hm8, hv8, ba8⟩
          obtain rfl := hm8.out
          have oa8 := ob7.lift ba8
          have Ba8 := bB Bb7 ba8
          have kl8 : (acc ++ ub (f - a).toNat).length + (ub n.toNat).length ≤ 1048576 := by have := u1.out; simp; omega
          go_wp2_with (at_builtin; refine wpList_pushCg rfl _ _ 30 rfl 1 Tryz.underlying30 byte_info (by decide) w.heap.size _ (acc ++ ub (f - a).toNat) (ub n.toNat) _ _ rfl rfl oa8 hv8.inC kl8 Ba8.size ?_; intro v8 wb8 ob8 hb8 hk8 hs8; have Bb8 := hb8 _ Ba8; have fs4 := hk8 _ _ _ (kp ba8 fs3) (by decide); obtain ⟨yfs4_a, yfs4_b, -⟩ := rcell fs4; have fr4 := hk8 _ _ _ (kp ba8 fr3) (by decide); obtain ⟨yfr4_a, yfr4_b, -⟩ := rcell fr4)
          clear yfs4_a yfs4_b
          clear yfr4_a yfr4_b
          clear hb8 hk8 hv8 oa8 kl8
          obtain ⟨zs_a, zs_b, ls22⟩ := rcell fs4
          obtain ⟨zr_a, zr_b, lr23⟩ := rcell fr4
          refine (c3 _).mono ?_
          rintro e wa9 ⟨Aa9, ca9, na9, rfl, hm9, hv9, ba9⟩
          obtain rfl := hm9.out
          have oa9 := ob8.lift ba9
          have Ba9 := bB Bb8 ba9
          have kl9 : (acc ++ ub (f - a).toNat ++ ub n.toNat).length + (ub s.toNat).length ≤ 1048576 := by have := u1.out; simp; omega
          go_wp2_with (at_builtin; refine wpList_pushCg rfl _ _ 30 rfl 1 Tryz.underlying30 byte_info (by decide) w.heap.size _ (acc ++ ub (f - a).toNat ++ ub n.toNat) (ub s.toNat) _ _ rfl rfl oa9 hv9.inC kl9 Ba9.size ?_; intro v9 wb9 ob9 hb9 hk9 hs9; have Bb9 := hb9 _ Ba9; have fs5 := hk9 _ _ _ (kp ba9 fs4) (by decide); obtain ⟨yfs5_a, yfs5_b, -⟩ := rcell fs5)
          clear yfs5_a yfs5_b
          clear hb9 hk9 hv9 oa9 kl9
          go_roundw
          case rel => exact ⟨j + 1 + 1, _, _, rfl, by go_num, by omega, hP2, ob9, fs5, Bb9⟩
          case measure => simp [intOf] <;> omega
        · have dn : decide (1 < n) = false := decide_eq_false hn1
          have hP2 : Hid (hdrY kd er l ++ wRs 0 l = (acc ++ ub (f - a).toNat ++ ub n.toNat) ++ wRs (frm l (j + 1 + 1)) (l.drop (j + 1 + 1))) := hide (by
            rw [hP.out, hst.out, wR1]
            simp only
            rw [if_pos (by omega)]
            simp [List.append_assoc])
          obtain ⟨zs_a, zs_b, ls24⟩ := rcell j1
          obtain ⟨zg_a, zg_b, lg25⟩ := rcell hgr
          go_wp2_with fail
          refine (cP _).mono ?_
          rintro e wq ⟨rfl, bq⟩
          have fq := kp bq (ka (j1) (.cells #[.int .i64 f, .int .i64 s, .int .i64 n] 46))
          have fr := kp bq (na wr #[.int .i64 f, .int .i64 s, .int .i64 n] 46)
          have Bq := bB (bA hb (.cells #[.int .i64 f, .int .i64 s, .int .i64 n] 46)) bq
          have oq := (ho.lift (bA (b0 wr) (.cells #[.int .i64 f, .int .i64 s, .int .i64 n] 46))).lift bq
          obtain ⟨zs_a, zs_b, ls26⟩ := rcell fq
          obtain ⟨zr_a, zr_b, lr27⟩ := rcell fr
          go_wp2_with fail
          refine (c1 _).mono ?_
          rintro e wa10 ⟨Aa10, ca10, na10, rfl, hm10, hv10, ba10⟩
          obtain rfl := hm10.out
          have oa10 := oq.lift ba10
          have Ba10 := bB Bq ba10
          have kl10 : (acc).length + (ub (f - a).toNat).length ≤ 1048576 := by have := u1.out; omega
          go_wp2_with (at_builtin; refine wpList_pushCg rfl _ _ 30 rfl 1 Tryz.underlying30 byte_info (by decide) w.heap.size _ (acc) (ub (f - a).toNat) _ _ rfl rfl oa10 hv10.inC kl10 Ba10.size ?_; intro v10 wb10 ob10 hb10 hk10 hs10; have Bb10 := hb10 _ Ba10; have fs3 := hk10 _ _ _ (kp ba10 fq) (by decide); obtain ⟨yfs3_a, yfs3_b, -⟩ := rcell fs3; have fr3 := hk10 _ _ _ (kp ba10 fr) (by decide); obtain ⟨yfr3_a, yfr3_b, -⟩ := rcell fr3)
          clear yfs3_a yfs3_b
          clear yfr3_a yfr3_b
          clear hb10 hk10 hv10 oa10 kl10
          obtain ⟨zs_a, zs_b, ls28⟩ := rcell fs3
          obtain ⟨zr_a, zr_b, lr29⟩ := rcell fr3
          refine (c2 _).mono ?_
          rintro e wa11 ⟨Aa11, ca11, na11, rfl, hm11, hv11, ba11⟩
          obtain rfl := hm11.out
          have oa11 := ob10.lift ba11
          have Ba11 := bB Bb10 ba11
          have kl11 : (acc ++ ub (f - a).toNat).length + (ub n.toNat).length ≤ 1048576 := by have := u1.out; simp; omega
          go_wp2_with (at_builtin; refine wpList_pushCg rfl _ _ 30 rfl 1 Tryz.underlying30 byte_info (by decide) w.heap.size _ (acc ++ ub (f - a).toNat) (ub n.toNat) _ _ rfl rfl oa11 hv11.inC kl11 Ba11.size ?_; intro v11 wb11 ob11 hb11 hk11 hs11; have Bb11 := hb11 _ Ba11; have fs4 := hk11 _ _ _ (kp ba11 fs3) (by decide); obtain ⟨yfs4_a, yfs4_b, -⟩ := rcell fs4; have fr4 := hk11 _ _ _ (kp ba11 fr3) (by decide); obtain ⟨yfr4_a, yfr4_b, -⟩ := rcell fr4)
          clear yfs4_a yfs4_b
          clear yfr4_a yfr4_b
          clear hb11 hk11 hv11 oa11 kl11
          obtain ⟨zs_a, zs_b, ls30⟩ := rcell fs4
          obtain ⟨zr_a, zr_b, lr31⟩ := rcell fr4
          go_roundw
          case rel => exact ⟨j + 1 + 1, _, _, rfl, by go_num, by omega, hP2, ob11, fs4, Bb11⟩
          case measure => simp [intOf] <;> omega
    · obtain rfl : k = l.length := by omega
      have HAcc : Hid (acc = hdrY kd er l ++ wRs 0 l) := hide (by
        have := hP.out
        rw [List.drop_length, wRs, List.append_nil] at this
        exact this.symm)
      have cA := ref02_Signed A (by omega) (by omega)
      have cN := ref02_Signed N (by omega) (by omega)
      have cD := ref02_Bytes D.toNat (by omega) D (by omega)
      have cR := ref02_Bytes R.toNat (by omega) R (by omega)
      have hwR : IntKind.u64.wrap R = R := by simp [IntKind.wrap, IntKind.bits, IntKind.signed]; omega
      have hwD : IntKind.u64.wrap D = D := by simp [IntKind.wrap, IntKind.bits, IntKind.signed]; omega
      have HwL : Hid ((ub (fold A)).length ≤ 10 ∧ (ub (fold N)).length ≤ 10 ∧ (ub D.toNat).length ≤ 10 ∧ (ub R.toNat).length ≤ 10) := hide ⟨ub_ten (fold_lt (by omega) (by omega)), ub_ten (fold_lt (by omega) (by omega)), ub_ten (by omega), ub_ten (by omega)⟩
      clear hP
      rcases (show kd = 1 ∨ kd = 2 ∨ kd = 3 ∨ kd = 4 by omega) with rfl | rfl | rfl | rfl
      · obtain rfl := hvv4.out (by decide)
        obtain ⟨zs_a, zs_b, ls32⟩ := rcell j1
        go_wp2_with fail
        refine (cA _).mono ?_
        rintro e wa12 ⟨Aa12, ca12, na12, rfl, hm12, hv12, ba12⟩
        obtain rfl := hm12.out
        have oa12 := ho.lift ba12
        have Ba12 := bB hb ba12
        have kl12 : (acc).length + (ub (fold A)).length ≤ 1048576 := by have := HwL.out; simp; omega
        go_wp2_with (at_builtin; refine wpList_pushCg rfl _ _ 30 rfl 1 Tryz.underlying30 byte_info (by decide) w.heap.size _ (acc) (ub (fold A)) _ _ rfl rfl oa12 hv12.inC kl12 Ba12.size ?_; intro v12 wb12 ob12 hb12 hk12 hs12; have Bb12 := hb12 _ Ba12; have fs8 := hk12 _ _ _ (kp ba12 j1) (by decide); obtain ⟨yfs8_a, yfs8_b, -⟩ := rcell fs8)
        clear yfs8_a yfs8_b
        clear hb12 hk12 hv12 oa12 kl12
        refine wp_loop_rounds 1 ?_
        rw [rounds_succ]
        go_wp2
        go_ret
        have hfin := ob12
        rw [show acc ++ ub (fold A) = wSeg ⟨1, l, ⟨A, R, N, D⟩, [], er⟩ by rw [HSeg.out]; simp [HAcc.out, wL, wVs]] at hfin
        obtain ⟨Af, cf, rfl, hyf⟩ := hfin.cr
        exact ⟨Af, cf, _, rfl, hide rfl, hyf, Bb12⟩
      · obtain rfl := hvv4.out (by decide)
        obtain ⟨zs_a, zs_b, ls33⟩ := rcell j1
        go_wp2_with fail
        have rl13 : (acc).length + (ub (fold N)).length ≤ 1048576 := by have := HwL.out; simp; omega
        have sl13 : (acc ++ ub (fold N)).length + (ub D.toNat).length ≤ 1048576 := by have := HwL.out; simp; omega
        have od13 : OwnC .u8 5 w.heap.size (wr).drew _ (acc) := ho
        have fd13 : (wr).drew.heap[w.heap.size]? = _ := j1
        have Bd13 : Below w.heap.size w (wr).drew := (hb).drew
        have z4 := (rcell fd13).1 4
        have z5 := (rcell fd13).1 5
        go_region_held3 (fun w' => w'.cell? ⟨w.heap.size, 4, none⟩ = some (.int .i64 N) ∧ w'.cell? ⟨w.heap.size, 5, none⟩ = some (.int .i64 D)) (exact ⟨z4, z5⟩) (first
          | (go_at_call 39; refine (cN _).mono ?_; rintro e wA ⟨AA, cA', nA, rfl, hmA, hvA, baA⟩; obtain rfl := hmA.out; have oA := od13.lift baA; have BA := bB Bd13 baA; have fA := kp baA fd13; have z4 := (rcell fA).1 4; have z5 := (rcell fA).1 5; clear hmA)
          | (refine step_pushCg rfl _ _ 30 rfl 1 Tryz.underlying30 byte_info (by decide) w.heap.size _ (acc) (ub (fold N)) _ _ rfl rfl oA hvA.inC rl13 BA.size ?_; intro vB wB oB hbB hkB hsB; have BB := hbB _ BA; have fB := hkB _ _ _ fA (by decide); have z4 := (rcell fB).1 4; have z5 := (rcell fB).1 5)
          | (go_at_call 37; refine (cD _).mono ?_; rintro e wC ⟨AC, cC, nC, rfl, hmC, hvC, baC⟩; obtain rfl := hmC.out; have oC := oB.lift baC; have BC := bB BB baC; have fC := kp baC fB; have z4 := (rcell fC).1 4; have z5 := (rcell fC).1 5; clear hmC)
          | (refine step_pushCg rfl _ _ 30 rfl 1 Tryz.underlying30 byte_info (by decide) w.heap.size _ (acc ++ ub (fold N)) (ub D.toNat) _ _ rfl rfl oC hvC.inC sl13 BC.size ?_; intro vD wD oD hbD hkD hsD; have BD := hbD _ BC; have fD := hkD _ _ _ fC (by decide); have z4 := (rcell fD).1 4; have z5 := (rcell fD).1 5))
        clear z4 z5 od13 Bd13 fd13
        obtain ⟨zs_a, zs_b, ls34⟩ := rcell fD
        go_wp2_with fail
        refine (cA _).mono ?_
        rintro e wa14 ⟨Aa14, ca14, na14, rfl, hm14, hv14, ba14⟩
        obtain rfl := hm14.out
        have oa14 := oD.lift ba14
        have Ba14 := bB BD ba14
        have kl14 : (acc ++ ub (fold N) ++ ub D.toNat).length + (ub (fold A)).length ≤ 1048576 := by have := HwL.out; simp; omega
        go_wp2_with (at_builtin; refine wpList_pushCg rfl _ _ 30 rfl 1 Tryz.underlying30 byte_info (by decide) w.heap.size _ (acc ++ ub (fold N) ++ ub D.toNat) (ub (fold A)) _ _ rfl rfl oa14 hv14.inC kl14 Ba14.size ?_; intro v14 wb14 ob14 hb14 hk14 hs14; have Bb14 := hb14 _ Ba14; have fs8 := hk14 _ _ _ (kp ba14 fD) (by decide); obtain ⟨yfs8_a, yfs8_b, -⟩ := rcell fs8)
        clear yfs8_a yfs8_b
        clear hb14 hk14 hv14 oa14 kl14
        refine wp_loop_rounds 1 ?_
        rw [rounds_succ]
        go_wp2
        go_ret
        have hfin := ob14
        rw [show acc ++ ub (fold N) ++ ub D.toNat ++ ub (fold A) = wSeg ⟨2, l, ⟨A, R, N, D⟩, [], er⟩ by rw [HSeg.out]; simp [HAcc.out, wL, wVs]] at hfin
        obtain ⟨Af, cf, rfl, hyf⟩ := hfin.cr
        exact ⟨Af, cf, _, rfl, hide rfl, hyf, Bb14⟩
      · obtain rfl := hvv4.out (by decide)
        obtain ⟨zs_a, zs_b, ls35⟩ := rcell j1
        go_wp2_with fail
        refine (cR _).mono ?_
        rintro e wa15 ⟨Aa15, ca15, na15, rfl, hm15, hv15, ba15⟩
        obtain rfl := hm15.out
        have oa15 := ho.lift ba15
        have Ba15 := bB hb ba15
        have kl15 : (acc).length + (ub R.toNat).length ≤ 1048576 := by have := HwL.out; simp; omega
        go_wp2_with (at_builtin; refine wpList_pushCg rfl _ _ 30 rfl 1 Tryz.underlying30 byte_info (by decide) w.heap.size _ (acc) (ub R.toNat) _ _ rfl rfl oa15 hv15.inC kl15 Ba15.size ?_; intro v15 wb15 ob15 hb15 hk15 hs15; have Bb15 := hb15 _ Ba15; have fs6 := hk15 _ _ _ (kp ba15 j1) (by decide); obtain ⟨yfs6_a, yfs6_b, -⟩ := rcell fs6)
        clear yfs6_a yfs6_b
        clear hb15 hk15 hv15 oa15 kl15
        obtain ⟨zs_a, zs_b, ls36⟩ := rcell fs6
        have rl16 : (acc ++ ub R.toNat).length + (ub (fold N)).length ≤ 1048576 := by have := HwL.out; simp; omega
        have sl16 : (acc ++ ub R.toNat ++ ub (fold N)).length + (ub D.toNat).length ≤ 1048576 := by have := HwL.out; simp; omega
        have od16 : OwnC .u8 5 w.heap.size (wb15).drew _ (acc ++ ub R.toNat) := ob15
        have fd16 : (wb15).drew.heap[w.heap.size]? = _ := fs6
        have Bd16 : Below w.heap.size w (wb15).drew := (Bb15).drew
        have z4 := (rcell fd16).1 4
        have z5 := (rcell fd16).1 5
        go_region_held3 (fun w' => w'.cell? ⟨w.heap.size, 4, none⟩ = some (.int .i64 N) ∧ w'.cell? ⟨w.heap.size, 5, none⟩ = some (.int .i64 D)) (exact ⟨z4, z5⟩) (first
          | (go_at_call 39; refine (cN _).mono ?_; rintro e wA ⟨AA, cA', nA, rfl, hmA, hvA, baA⟩; obtain rfl := hmA.out; have oA := od16.lift baA; have BA := bB Bd16 baA; have fA := kp baA fd16; have z4 := (rcell fA).1 4; have z5 := (rcell fA).1 5; clear hmA)
          | (refine step_pushCg rfl _ _ 30 rfl 1 Tryz.underlying30 byte_info (by decide) w.heap.size _ (acc ++ ub R.toNat) (ub (fold N)) _ _ rfl rfl oA hvA.inC rl16 BA.size ?_; intro vB wB oB hbB hkB hsB; have BB := hbB _ BA; have fB := hkB _ _ _ fA (by decide); have z4 := (rcell fB).1 4; have z5 := (rcell fB).1 5)
          | (go_at_call 37; refine (cD _).mono ?_; rintro e wC ⟨AC, cC, nC, rfl, hmC, hvC, baC⟩; obtain rfl := hmC.out; have oC := oB.lift baC; have BC := bB BB baC; have fC := kp baC fB; have z4 := (rcell fC).1 4; have z5 := (rcell fC).1 5; clear hmC)
          | (refine step_pushCg rfl _ _ 30 rfl 1 Tryz.underlying30 byte_info (by decide) w.heap.size _ (acc ++ ub R.toNat ++ ub (fold N)) (ub D.toNat) _ _ rfl rfl oC hvC.inC sl16 BC.size ?_; intro vD wD oD hbD hkD hsD; have BD := hbD _ BC; have fD := hkD _ _ _ fC (by decide); have z4 := (rcell fD).1 4; have z5 := (rcell fD).1 5))
        clear z4 z5 od16 Bd16 fd16
        obtain ⟨zs_a, zs_b, ls37⟩ := rcell fD
        go_wp2_with fail
        refine (cA _).mono ?_
        rintro e wa17 ⟨Aa17, ca17, na17, rfl, hm17, hv17, ba17⟩
        obtain rfl := hm17.out
        have oa17 := oD.lift ba17
        have Ba17 := bB BD ba17
        have kl17 : (acc ++ ub R.toNat ++ ub (fold N) ++ ub D.toNat).length + (ub (fold A)).length ≤ 1048576 := by have := HwL.out; simp; omega
        go_wp2_with (at_builtin; refine wpList_pushCg rfl _ _ 30 rfl 1 Tryz.underlying30 byte_info (by decide) w.heap.size _ (acc ++ ub R.toNat ++ ub (fold N) ++ ub D.toNat) (ub (fold A)) _ _ rfl rfl oa17 hv17.inC kl17 Ba17.size ?_; intro v17 wb17 ob17 hb17 hk17 hs17; have Bb17 := hb17 _ Ba17; have fs8 := hk17 _ _ _ (kp ba17 fD) (by decide); obtain ⟨yfs8_a, yfs8_b, -⟩ := rcell fs8)
        clear yfs8_a yfs8_b
        clear hb17 hk17 hv17 oa17 kl17
        refine wp_loop_rounds 1 ?_
        rw [rounds_succ]
        go_wp2
        go_ret
        have hfin := ob17
        rw [show acc ++ ub R.toNat ++ ub (fold N) ++ ub D.toNat ++ ub (fold A) = wSeg ⟨3, l, ⟨A, R, N, D⟩, [], er⟩ by rw [HSeg.out]; simp [HAcc.out, wL, wVs]] at hfin
        obtain ⟨Af, cf, rfl, hyf⟩ := hfin.cr
        exact ⟨Af, cf, _, rfl, hide rfl, hyf, Bb17⟩
      · have HV2 := HV.out
        have HTot : Hid ((hdrY 4 er l ++ wRs 0 l ++ wVs 0 vs).length ≤ 8000) := hide (by
          have h1 := HLen.out
          have h2 := wVs_len vs 0 HVa.out (by decide)
          rw [List.length_append]
          omega)
        obtain ⟨zs_a, zs_b, ls38⟩ := rcell j1
        go_wp2_with fail
        go_loopw [3, 108] (fun vo vi wr => ∃ (k : Nat) (acc : List Int) (v0 : Value), v0 = vo ∧ vi = .int .i64 k ∧ k ≤ vs.length ∧ Hid (hdrY 4 er l ++ wRs 0 l ++ wVs 0 vs = acc ++ wVs (frv vs k) (vs.drop k)) ∧ OwnC .u8 5 w.heap.size wr v0 acc ∧ wr.heap[w.heap.size]? = some (.cells #[.int .i64 4, .slice RA l.length rc, .int .i64 A, .int .i64 R, .int .i64 N, .int .i64 D, .slice VA vs.length vc, .int .i64 er] 27 (0, 0)) ∧ Below w.heap.size w wr) (fun _ vi _ => vs.length - (intOf vi).toNat)
        case atStart => exact ⟨0, acc, _, rfl, rfl, by omega, hide (by rw [HAcc.out]; rfl), ho, j1, hb⟩
        case round =>
          obtain ⟨k, acc2, v0, rfl, rfl, hk, hP, ho, j1, hb⟩ := hrel
          have hal : acc2.length ≤ 8000 := by
            have h1 := HTot.out
            rw [hP.out, List.length_append] at h1
            omega
          by_cases hlt : k < vs.length
          · obtain ⟨g, oo, cur, rfl, hg, hcc⟩ := HV2.mem (by omega)
            have hcap := HV2.cap
            have htop := HV2.top
            have q1 := hcc k hlt
            have hgr := kp hb hg
            have hst := hide (wVs_at (a := frv vs k) hlt)
            have hb1 := bkV_spec (List.all_eq_true.1 HVa.out _ (List.getElem_mem hlt))
            have hnx : Hid (frv vs (k + 1) = vs[k]) := hide (by simp [frv, hlt])
            rcases k with _ | j
            · rw [show frv vs 0 = 0 from rfl] at hst hP
              generalize vs[0] = x at *
              simp only [Nat.add_zero] at q1
              have cS := ref02_Signed x (by omega) (by omega)
              have u1 : Hid ((ub (fold x)).length ≤ 10) := hide (ub_ten (fold_lt (by omega) (by omega)))
              have hP2 : Hid (hdrY 4 er l ++ wRs 0 l ++ wVs 0 vs = (acc2 ++ ub (fold x)) ++ wVs (frv vs (0 + 1)) (vs.drop (0 + 1))) := hide (by
                rw [hP.out, hst.out, hnx.out, Int.sub_zero, List.append_assoc])
              have HCC := hide hcc
              clear hcc
              obtain ⟨zs_a, zs_b, ls39⟩ := rcell j1
              obtain ⟨zg_a, zg_b, lg40⟩ := rcell hgr
              go_wp2_with fail
              refine (cS _).mono ?_
              rintro e wa18 ⟨Aa18, ca18, na18, rfl, hm18, hv18, ba18⟩
              obtain rfl := hm18.out
              have oa18 := ho.lift ba18
              have Ba18 := bB hb ba18
              have kl18 : (acc2).length + (ub (fold x)).length ≤ 1048576 := by have := u1.out; omega
              go_wp2_with (at_builtin; refine wpList_pushCg rfl _ _ 30 rfl 1 Tryz.underlying30 byte_info (by decide) w.heap.size _ (acc2) (ub (fold x)) _ _ rfl rfl oa18 hv18.inC kl18 Ba18.size ?_; intro v18 wb18 ob18 hb18 hk18 hs18; have Bb18 := hb18 _ Ba18; have fs9 := hk18 _ _ _ (kp ba18 j1) (by decide); obtain ⟨yfs9_a, yfs9_b, -⟩ := rcell fs9)
              clear yfs9_a yfs9_b
              clear hb18 hk18 hv18 oa18 kl18
              go_roundw
              case rel => exact ⟨0 + 1, _, _, rfl, by go_num, by omega, hP2, ob18, fs9, Bb18⟩
              case measure => simp [intOf] <;> omega
            · have q2 := hcc j (by omega)
              have hb2 := bkV_spec (List.all_eq_true.1 HVa.out _ (List.getElem_mem (show j < vs.length by omega)))
              have hpv : frv vs (j + 1) = vs[j] := by simp [frv, show j < vs.length by omega]
              rw [hpv] at hst hP
              clear hpv
              generalize vs[j] = y at *
              generalize vs[j + 1] = x at *
              have cS := ref02_Signed (x - y) (by omega) (by omega)
              have hwx : wrap64 (x - y) = x - y := by unfold wrap64; omega
              have hwx2 : IntKind.i64.wrap (x - y) = x - y := IntWalk.i64_in _ (by omega)
              have u1 : Hid ((ub (fold (x - y))).length ≤ 10) := hide (ub_ten (fold_lt (by omega) (by omega)))
              have hP2 : Hid (hdrY 4 er l ++ wRs 0 l ++ wVs 0 vs = (acc2 ++ ub (fold (x - y))) ++ wVs (frv vs (j + 1 + 1)) (vs.drop (j + 1 + 1))) := hide (by
                rw [hP.out, hst.out, hnx.out, List.append_assoc])
              have HCC := hide hcc
              clear hcc
              obtain ⟨zs_a, zs_b, ls41⟩ := rcell j1
              obtain ⟨zg_a, zg_b, lg42⟩ := rcell hgr
              go_wp2_with fail
              refine (cS _).mono ?_
              rintro e wa19 ⟨Aa19, ca19, na19, rfl, hm19, hv19, ba19⟩
              obtain rfl := hm19.out
              have oa19 := ho.lift ba19
              have Ba19 := bB hb ba19
              have kl19 : (acc2).length + (ub (fold (x - y))).length ≤ 1048576 := by have := u1.out; omega
              go_wp2_with (at_builtin; refine wpList_pushCg rfl _ _ 30 rfl 1 Tryz.underlying30 byte_info (by decide) w.heap.size _ (acc2) (ub (fold (x - y))) _ _ rfl rfl oa19 hv19.inC kl19 Ba19.size ?_; intro v19 wb19 ob19 hb19 hk19 hs19; have Bb19 := hb19 _ Ba19; have fs9 := hk19 _ _ _ (kp ba19 j1) (by decide); obtain ⟨yfs9_a, yfs9_b, -⟩ := rcell fs9)
              clear yfs9_a yfs9_b
              clear hb19 hk19 hv19 oa19 kl19
              go_roundw
              case rel => exact ⟨j + 1 + 1, _, _, rfl, by go_num, by omega, hP2, ob19, fs9, Bb19⟩
              case measure => simp [intOf] <;> omega
          · obtain rfl : k = vs.length := by omega
            have hfin := ho
            have hacc2 : acc2 = wSeg ⟨4, l, ⟨A, R, N, D⟩, vs, er⟩ := by
              rw [HSeg.out]
              have := hP.out
              rw [List.drop_length, wVs, List.append_nil] at this
              rw [← this]
              simp [wL]
            rw [hacc2] at hfin
            have HF := hide hfin
            clear hfin ho hacc2
            go_wp2
            go_ret
            obtain ⟨Af, cf, rfl, hyf⟩ := HF.out.cr
            exact ⟨Af, cf, _, rfl, hide rfl, hyf, hb⟩
end
end Go.Proofs.YtmpfbkeamihjbaaGreat
