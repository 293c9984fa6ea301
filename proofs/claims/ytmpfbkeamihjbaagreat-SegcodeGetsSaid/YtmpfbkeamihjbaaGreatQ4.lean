/- The package segcode at this program: the writer. The package segcode at this program: the writer's runs and lines. Segments that may be: their bounds, and how many bytes they have. Plain law. The package segcode at this program: the writer's lines, Encode, Size. The package segcode at this program: Encode, Size. -/
import Derived.Test.YtmpfbkeamihjbaaGreatQ3
import Derived.Test.YtmpfbkeamihjbaaGreatQ2
import Derived.ScopeJumps
set_option linter.unusedSimpArgs false
set_option linter.unusedVariables false
namespace Go.Proofs.YtmpfbkeamihjbaaGreat
open Go.RowKit
attribute [local go_sem] Oper.semAt_some

/-- a writer, and what it has laid -/
def Wr (g : Nat) (l : List Int) (w : World) : Prop := ∃ A c n, w.heap[g]? = some (.cells #[.slice A n c] 57 (0, 0)) ∧ Hid (n = l.length) ∧ YR w A c l
theorem Wr.below {g : Nat} {l : List Int} {w w' : World} (h : Wr g l w) (hb : Below w.heap.size w w') : Wr g l w' := by
  obtain ⟨A, c, n, h1, h2, h3⟩ := h
  exact ⟨A, c, n, kp hb h1, h2, h3.below hb⟩
theorem Wr.lt {g : Nat} {l : List Int} {w : World} (h : Wr g l w) : g < w.heap.size := by
  obtain ⟨A, c, n, h1, h2, h3⟩ := h
  exact (rcell h1).2.2
theorem RR.wr {g : Nat} {q : List Int} {w w1 : World} {A : Option Addr} {c : Nat} {l : List Rn} (h : RR w A c l) (hx : Exc g w w1) (hg : Wr g q w) : RR w1 A c l := by
  obtain ⟨A', c', n, h1, h2, h3⟩ := hg
  exact h.exc hx h1 (by decide)
theorem CR.wr {g : Nat} {q : List Int} {w w1 : World} {A : Option Addr} {c : Nat} {l : List Int} (h : VR w A c l) (hx : Exc g w w1) (hg : Wr g q w) : VR w1 A c l := by
  obtain ⟨A', c', n, h1, h2, h3⟩ := hg
  exact h.exc hx h1 (by decide)

set_option maxRecDepth 100000 in
theorem w_plain (g : Nat) (l : List Int) (N : Nat) (hN : N < 9223372036854775808) (hl : l.length ≤ 524288) (w : World) (h : Wr g l w) :
    Calls Tryz.prog 28 #[.pointer (some ⟨g, 0, none⟩), .int .i64 (N : Int)] w fun e w' => e = .returned (.tuple #[]) ∧ Exc g w w' ∧ Wr g (l ++ ub N) w' := by
  obtain ⟨A, c, n, hg, hn, hy⟩ := h
  obtain ⟨z1, z2, z3⟩ := rcell hg
  go_enter Tryz.func28, Tryz.ntmps28
  go_wp2_with fail
  refine (vary_PutU A c n l N hn.out (by omega) hl _ hy).mono ?_
  rintro e w1 ⟨A', c', n', rfl, hn', hy', hb⟩
  have f1 := kp hb hg
  clear z1 z2
  obtain ⟨z1, z2, -⟩ := rcell f1
  go_wp2
  rw [row1 f1]
  generalize hT : setRow w1 _ _ = w2
  obtain ⟨hx, f2⟩ := fin_x (b0 _) f1 hT
  clear hT
  refine bodyPost_end (by simp [results, Tryz.results28, go_sem]; try rfl) rfl ⟨rfl, (xB (x0 g w (Nat.le_of_lt z3)) hb).trans hx, A', c', n', f2, hn', hy'.exc hx f1 (by decide)⟩
set_option maxRecDepth 100000 in
theorem w_signed (g : Nat) (l : List Int) (m : Int) (h0 : -9223372036854775808 ≤ m) (h1 : m ≤ 9223372036854775807) (hl : l.length ≤ 524288) (w : World) (h : Wr g l w) :
    Calls Tryz.prog 31 #[.pointer (some ⟨g, 0, none⟩), .int .i64 m] w fun e w' => e = .returned (.tuple #[]) ∧ Exc g w w' ∧ Wr g (l ++ ub (fold m)) w' := by
  obtain ⟨A, c, n, hg, hn, hy⟩ := h
  obtain ⟨z1, z2, z3⟩ := rcell hg
  go_enter Tryz.func31, Tryz.ntmps31
  go_wp2_with fail
  refine (vary_Put A c n l m hn.out h0 h1 hl _ hy).mono ?_
  rintro e w1 ⟨A', c', n', rfl, hn', hy', hb⟩
  have f1 := kp hb hg
  clear z1 z2
  obtain ⟨z1, z2, -⟩ := rcell f1
  go_wp2
  rw [row1 f1]
  generalize hT : setRow w1 _ _ = w2
  obtain ⟨hx, f2⟩ := fin_x (b0 _) f1 hT
  clear hT
  refine bodyPost_end (by simp [results, Tryz.results31, go_sem]; try rfl) rfl ⟨rfl, (xB (x0 g w (Nat.le_of_lt z3)) hb).trans hx, A', c', n', f2, hn', hy'.exc hx f1 (by decide)⟩

theorem rlast_eq (r : Rn) : rlast r = r.f + r.s * (r.n - 1) := by unfold rlast; rw [Int.mul_comm]
theorem rlast_bd (f s n : Int) (hs : 0 ≤ s ∧ s ≤ 281474976710656) (hn : 1 ≤ n ∧ n ≤ 256) : 0 ≤ (n - 1) * s ∧ (n - 1) * s ≤ 256 * 281474976710656 := by
  have a := Int.mul_nonneg (show 0 ≤ n - 1 by omega) hs.1
  have b := Int.mul_le_mul (a := n - 1) (b := s) (c := 256) (d := 281474976710656) (by omega) hs.2 hs.1 (by omega)
  exact ⟨a, b⟩
theorem code_last (f s n : Int) (hf : 0 ≤ f ∧ f ≤ 562949953421312) (hs : 0 ≤ s ∧ s ≤ 281474976710656) (hn : 1 ≤ n ∧ n ≤ 256) (w : World) : Calls Tryz.prog 55 #[.agg #[.int .i64 f, .int .i64 s, .int .i64 n]] w fun e w' => e = .returned (.int .i64 (rlast ⟨f, s, n⟩)) ∧ Below w.heap.size w w' := by
  obtain ⟨h1, h2⟩ := rlast_bd f s n hs hn
  have hR : Hid (rlast ⟨f, s, n⟩ = f + (n - 1) * s) := hide rfl
  go_enter Tryz.func55, Tryz.ntmps55
  go_wp2
  go_ret
  exact ⟨by rw [hR.out]; rfl, (bA (b0 w) (.cells #[.int .i64 f, .int .i64 s, .int .i64 n] 46))⟩
end Go.Proofs.YtmpfbkeamihjbaaGreat

namespace Go.Proofs.YtmpfbkeamihjbaaGreat
open Go.RowKit
attribute [local go_sem] Oper.semAt_some

theorem rn_drop {l : List Rn} {k : Nat} (h : k < l.length) : l.drop k = rn l k :: l.drop (k + 1) := by
  rw [List.drop_eq_getElem_cons h, rn_eq h]

/-- where a run's time begins: not behind its first time -/
theorem from_le {l : List Rn} (h : ∀ i, i < l.length → rnAt l i = true) {k : Nat} (hk : k < l.length) (h0 : 0 < k) : rlast (rn l (k - 1)) ≤ (rn l k).f := by
  have q := (rnAt_spec (h k hk)).2.2
  rcases q with q | q
  · omega
  · unfold rnGap at q
    simp only [Bool.and_eq_true, decide_eq_true_eq] at q
    rw [rlast_eq]
    omega

set_option maxRecDepth 100000 in
set_option maxHeartbeats 4000000 in
theorem w_runs (g : Nat) (base : List Int) (RA : Option Addr) (rc : Nat) (l : List Rn) (h : rnB l = true) (hbl : base.length + (wRuns l).length ≤ 500000) (w : World) (hW : Wr g base w) (hR : RR w RA rc l) :
    Calls Tryz.prog 29 #[.pointer (some ⟨g, 0, none⟩), .slice RA l.length rc] w fun e w' => e = .returned (.tuple #[]) ∧ Exc g w w' ∧ Wr g (base ++ wRuns l) w' := by
  have hmf : ∀ (fn : Fn) (first cap : Array Value) (w : World), (Instr.makeFunc fn first cap).run Tryz.prog w = .ok (.func fn first cap) w := fun _ _ _ _ => rfl
  obtain ⟨k0, k1, k2, k3⟩ := rnB_spec h
  obtain ⟨gl, o, cur, rfl, hg, hcc⟩ := hR.mem k0
  have hcell : Hid (∀ i, i < l.length → cur[o + i * 3]? = some (.int .i64 (rn l i).f) ∧ cur[o + i * 3 + 1]? = some (.int .i64 (rn l i).s) ∧ cur[o + i * 3 + 2]? = some (.int .i64 (rn l i).n)) := hide fun i hi => by
    have := hcc i hi
    rw [rn_eq hi] at this
    exact this
  have K2 := hide k2
  have HBL := hide hbl
  have hne : gl ≠ g := by
    obtain ⟨A', c', n', h1, -, -⟩ := hW
    rintro rfl
    rw [hg] at h1
    injection h1 with h1
    injection h1 with _ h2 _
    exact absurd h2 (by decide)
  have c0 := fun (w : World) (hW : Wr g base w) => w_plain g base l.length (by omega) (by omega) w hW
  clear k2 k3 h hcc hbl
  have lgw : g < w.heap.size := hW.lt
  go_enter Tryz.func29, Tryz.ntmps29
  obtain ⟨zl_a, zl_b, ll0⟩ := rcell hg
  go_wp2_with fail
  refine wp_scope_straight ?_
  go_wp2_with fail
  go_wp2_with fail
  refine (c0 _ hW).mono ?_
  rintro e w1 ⟨rfl, hx1, rn_W1⟩
  have f_l1 := kx hx1 (hg) (by omega)
  have hB1 := xX (x0 g w (Nat.le_of_lt hW.lt)) hx1 (by omega)
  clear zl_a zl_b
  obtain ⟨zl_a, zl_b, ll1⟩ := rcell f_l1
  go_wp2_with fail
  refine wp_label ?_
  go_wp2_with fail
  go_loopw [5, 16] (fun va vi wr => ∃ (k : Nat) (a : Int) (pre : List Int), vi = .int .i64 k ∧ va = .int .i64 a ∧ k ≤ l.length ∧ Hid (pre ++ wRs a (l.drop k) = wRuns l) ∧ Hid (0 ≤ a ∧ (k < l.length → a ≤ (rn l k).f)) ∧ Wr g (base ++ pre) wr ∧ wr.heap[gl]? = some (.cells cur 46 (0, 0)) ∧ Exc g w wr) (fun _ vi _ => l.length - (intOf vi).toNat)
  case atStart =>
    exact ⟨0, 0, _, rfl, rfl, by omega, hide rfl, hide ⟨Int.le_refl _, fun hk => (rnIs_spec (rnAt_spec (K2.out 0 hk)).1).2.2.1⟩, rn_W1, (f_l1), hB1⟩
  case round =>
    obtain ⟨k, a, pre, rfl, rfl, hk, hpre, ha, jw, jl, hb⟩ := hrel
    by_cases hlt : k < l.length
    · obtain ⟨z1, z2, z3⟩ := hcell.out k hlt
      have q := rnIs_spec (rnAt_spec (K2.out k hlt)).1
      have hlen : base.length + pre.length + (wR1 a (rn l k)).length ≤ 500000 := by
        have e := hpre.out
        rw [rn_drop hlt, wRs] at e
        have e2 := congrArg List.length e
        have := HBL.out
        simp only [List.length_append] at e2
        omega
      have hfa := ha.out.2 hlt
      have ha0 := ha.out.1
      have hnext : Hid (∀ hk2 : k + 1 < l.length, rlast (rn l k) ≤ (rn l (k + 1)).f) := hide fun hk2 => from_le K2.out hk2 (by omega)
      have hp2 : Hid (pre ++ wR1 a (rn l k) ++ wRs (rlast (rn l k)) (l.drop (k + 1)) = wRuns l) := hide (by rw [← hpre.out, rn_drop hlt, wRs, List.append_assoc])
      generalize rn l k = r at *
      obtain ⟨f, s, n⟩ := r
      simp only at z1 z2 z3 q hfa
      obtain ⟨q1, q2, q3, q4, q5, q6⟩ := q
      have hLen := hide hlen
      have hl0 : (base ++ pre).length ≤ 500000 := by rw [List.length_append]; omega
      have HL0 := hide hl0
      obtain ⟨F, hF⟩ : ∃ F : Nat, f - a = F := ⟨(f - a).toNat, by omega⟩
      obtain ⟨M, rfl⟩ : ∃ M : Nat, n = M := ⟨n.toNat, by omega⟩
      obtain ⟨S, rfl⟩ : ∃ S : Nat, s = S := ⟨s.toNat, by omega⟩
      have hW1 : Hid (wR1 a ⟨f, S, M⟩ = ub F ++ (ub M ++ (if M = 1 then [] else ub S))) := hide (by
        unfold wR1
        rw [show (f - a).toNat = F by omega]
        simp only [Int.toNat_natCast]
        congr 2
        by_cases e : M = 1
        · subst e; rfl
        · rw [if_neg e, if_neg (by omega)])
      have hr0 := rlast_bd f S M ⟨q5, q6⟩ ⟨q1, q2⟩
      have hrl : Hid (0 ≤ rlast ⟨f, S, M⟩) := hide (by unfold rlast; simp only; omega)
      have cl := fun w => code_last f S M ⟨q3, by omega⟩ ⟨q5, q6⟩ ⟨q1, q2⟩ w
      have c1 := fun (w : World) (hW : Wr g (base ++ pre) w) => w_plain g (base ++ pre) F (by omega) (by omega) w hW
      have c2 := fun (w : World) (hW : Wr g (base ++ pre ++ ub F) w) => w_plain g (base ++ pre ++ ub F) M (by omega) (by have := hLen.out; rw [hW1.out] at this; simp only [List.length_append] at this ⊢; omega) w hW
      have c3 := fun (hM : ¬ M = 1) (w : World) (hW : Wr g (base ++ pre ++ ub F ++ ub M) w) => w_plain g (base ++ pre ++ ub F ++ ub M) S (by omega) (by have := hLen.out; rw [hW1.out, if_neg hM] at this; simp only [List.length_append] at this ⊢; omega) w hW
      generalize rlast ⟨f, S, M⟩ = la at *
      clear hlen hl0 hr0 c0
      have lgr := jw.lt
      obtain ⟨zl_a, zl_b, ll2⟩ := rcell jl
      go_wp2_with fail
      go_wp2_with fail
      refine (c1 _ (jw.below (bA (b0 _) (.cells #[.int .i64 f, .int .i64 S, .int .i64 M] 46)))).mono ?_
      rintro e w3 ⟨rfl, hx3, rn_W3⟩
      have f_l3 := kx hx3 (ka (jl) (.cells #[.int .i64 f, .int .i64 S, .int .i64 M] 46)) (by omega)
      have f_r3 := kx hx3 (na wr #[.int .i64 f, .int .i64 S, .int .i64 M] 46) (by omega)
      have hB3 := xX (xA hb (.cells #[.int .i64 f, .int .i64 S, .int .i64 M] 46)) hx3 (by omega)
      clear zl_a zl_b
      obtain ⟨zl_a, zl_b, ll3⟩ := rcell f_l3
      obtain ⟨zr_a, zr_b, lr3⟩ := rcell f_r3
      clear hF
      go_wp2_with fail
      refine (c2 _ rn_W3).mono ?_
      rintro e w4 ⟨rfl, hx4, rn_W4⟩
      have f_l4 := kx hx4 (f_l3) (by omega)
      have f_r4 := kx hx4 (f_r3) (by omega)
      have hB4 := xX hB3 hx4 (by omega)
      clear zl_a zl_b zr_a zr_b
      obtain ⟨zl_a, zl_b, ll4⟩ := rcell f_l4
      obtain ⟨zr_a, zr_b, lr4⟩ := rcell f_r4
      go_wp2_with fail
      refine (cl _).mono ?_
      rintro e w5 ⟨rfl, hb5⟩
      have f_l5 := kp hb5 (f_l4)
      have f_r5 := kp hb5 (f_r4)
      have rd_W5 := rn_W4.below hb5
      have hB5 := xB hB4 hb5
      clear zl_a zl_b zr_a zr_b
      obtain ⟨zl_a, zl_b, ll5⟩ := rcell f_l5
      obtain ⟨zr_a, zr_b, lr5⟩ := rcell f_r5
      by_cases hM : M = 1
      · have d1 : ((M : Int) == 1) = true := by simp; omega
        have e2 : base ++ pre ++ ub F ++ ub M = base ++ (pre ++ wR1 a ⟨f, S, M⟩) := by rw [hW1.out, if_pos hM]; simp only [List.append_assoc, List.append_nil]
        have jW := rd_W5
        rw [e2] at jW
        have HP2 := hp2
        clear hM e2 c1 c2 c3
        go_wp2
        go_roundw
        case rel => exact ⟨k + 1, la, _, by go_num, by go_num, by omega, HP2, hide ⟨hrl.out, hnext.out⟩, jW, (f_l5), hB5⟩
        case measure => simp [intOf]; omega
      · have d1 : ((M : Int) == 1) = false := by simp; omega
        have e2 : base ++ pre ++ ub F ++ ub M ++ ub S = base ++ (pre ++ wR1 a ⟨f, S, M⟩) := by rw [hW1.out, if_neg hM]; simp only [List.append_assoc]
        have E2 := hide e2
        have c4 := c3 hM
        clear hM e2 c1 c2 c3
        go_wp2_with fail
        refine (c4 _ rd_W5).mono ?_
        rintro e w6 ⟨rfl, hx6, rn_W6⟩
        have f_l6 := kx hx6 (f_l5) (by omega)
        have f_r6 := kx hx6 (f_r5) (by omega)
        have hB6 := xX hB5 hx6 (by omega)
        clear zl_a zl_b zr_a zr_b
        obtain ⟨zl_a, zl_b, ll6⟩ := rcell f_l6
        obtain ⟨zr_a, zr_b, lr6⟩ := rcell f_r6
        have jW := rn_W6
        rw [E2.out] at jW
        go_wp2
        go_roundw
        case rel => exact ⟨k + 1, la, _, by go_num, by go_num, by omega, hp2, hide ⟨hrl.out, hnext.out⟩, jW, (f_l6), hB6⟩
        case measure => simp [intOf]; omega
    · obtain rfl : k = l.length := by omega
      have hfin : pre = wRuns l := by
        have := hpre.out
        rwa [List.drop_length, wRs, List.append_nil] at this
      subst hfin
      go_wp2
      simp only [Exit.noGoto]
      refine bodyPost_end (by simp [results, Tryz.results29, go_sem]; try rfl) rfl ⟨rfl, hb, jw⟩
end Go.Proofs.YtmpfbkeamihjbaaGreat

namespace Go.Proofs.YtmpfbkeamihjbaaGreat
open Go.RowKit

structure SgOk (s : Sg) : Prop where
  k1 : 1 ≤ s.kd
  k4 : s.kd ≤ 4
  e0 : 0 ≤ s.er
  e1 : s.er ≤ 1099511627776
  rn : rnB s.l = true
  A0 : -2305844108725321728 ≤ s.q.A
  A1 : s.q.A ≤ 2305844108725321728
  N0 : -4611688217450643456 ≤ s.q.N
  N1 : s.q.N ≤ 4611688217450643456
  R0 : 0 ≤ s.q.R
  R1 : s.q.R ≤ 281474976710656
  D0 : 0 ≤ s.q.D
  D1 : s.q.D ≤ 281474976710656
  vs : s.vs.all bkV = true
  vl : s.vs.length ≤ 256
  v4 : s.kd ≠ 4 → s.vs = []
  q4 : s.kd = 4 → s.q = ⟨0, 0, 0, 0⟩ ∧ (s.vs.length : Int) = rnSum s.l s.l.length
theorem lnB_spec {l : List Rn} {A R N D : Int} {vl : Nat} (h : lnB l A R N D vl = true) : isB A R N D = true ∧ vl = 0 := by
  unfold lnB at h
  simp only [Bool.and_eq_true, beq_iff_eq] at h
  obtain ⟨h1, h2⟩ := h
  refine ⟨?_, by omega⟩
  unfold enE at h1
  split at h1
  · assumption
  · cases h1
theorem isB_parts {A R N D : Int} (h : isB A R N D = true) : bkB A = true ∧ slB N D = true ∧ (lwN N D = N ∧ lwD N D = D) ∧ 0 ≤ R ∧ R < D := of_decide_eq_true h
theorem bkV_spec {v : Int} (h : bkV v = true) : -2305844108725321728 ≤ v ∧ v ≤ 2305844108725321728 := by
  unfold bkV at h
  simpa using h
theorem sg_ok {s : Sg} (h : sgB s = true) : SgOk s := by
  unfold sgB at h
  simp only [Bool.and_eq_true, decide_eq_true_eq] at h
  obtain ⟨h1, h2, h3, h4, h5, h6⟩ := h
  unfold kdB at h6
  have line : lnB s.l s.q.A s.q.R s.q.N s.q.D s.vs.length = true → s.kd ≠ 4 → SgOk s := fun hl hk => by
    obtain ⟨hi, hv⟩ := lnB_spec hl
    obtain ⟨i1, i2, -, i3, i4⟩ := isB_parts hi
    obtain ⟨j1, j2, j3, j4⟩ := slB_spec i2
    have i1' := of_decide_eq_true i1
    have hv0 : s.vs = [] := List.eq_nil_of_length_eq_zero hv
    exact ⟨h1, h2, h3, h4, h5, i1'.1, i1'.2, j3, j4, i3, by omega, by omega, j2, by rw [hv0]; rfl, by omega, fun _ => hv0, fun e => absurd e hk⟩
  split at h6
  · simp only [Bool.and_eq_true] at h6
    exact line h6.2 (by omega)
  · split at h6
    · simp only [Bool.and_eq_true] at h6
      exact line h6.2.2 (by omega)
    · split at h6
      · simp only [Bool.and_eq_true] at h6
        exact line h6.2 (by omega)
      · unfold rwB zB at h6
        simp only [Bool.and_eq_true, decide_eq_true_eq] at h6
        obtain ⟨⟨z1, z2, z3, z4⟩, z5, z6⟩ := h6
        have := (rnB_spec h5).2.2.2
        refine ⟨h1, h2, h3, h4, h5, by omega, by omega, by omega, by omega, by omega, by omega, by omega, by omega, z6, by omega, fun e => absurd (show s.kd = 4 by omega) e, fun _ => ⟨?_, z5⟩⟩
        obtain ⟨kd, l, ⟨A, R, N, D⟩, vs, er⟩ := s
        simp_all

/-! ### how many bytes -/
theorem ub_two {n : Nat} (h : n ≤ 256) : (ub n).length ≤ 2 := ub_le 1 n (Nat.lt_of_le_of_lt h (by decide))
theorem ub_seven {n : Nat} (h : n ≤ 281474976710656) : (ub n).length ≤ 7 := ub_le 6 n (Nat.lt_of_le_of_lt h (by decide))
theorem wR1_len {a : Int} {r : Rn} (h : rnIs r = true) (ha : 0 ≤ a) : (wR1 a r).length ≤ 16 := by
  obtain ⟨q1, q2, q3, q4, q5, q6⟩ := rnIs_spec h
  unfold wR1
  simp only [List.length_append]
  have h1 : (ub (r.f - a).toNat).length ≤ 7 := ub_seven (by omega)
  have h2 : (ub r.n.toNat).length ≤ 2 := ub_two (by omega)
  have h3 : (ub r.s.toNat).length ≤ 7 := ub_seven (by omega)
  split
  · simp only [List.length_nil]; omega
  · omega
theorem rlast_nn {r : Rn} (h : rnIs r = true) : 0 ≤ rlast r := by
  obtain ⟨q1, q2, q3, q4, q5, q6⟩ := rnIs_spec h
  rw [rlast_eq]
  exact rnLast_nn r q3 q5 q1
theorem wRs_len : ∀ (l : List Rn) (a : Int), (∀ r ∈ l, rnIs r = true) → 0 ≤ a → (wRs a l).length ≤ 16 * l.length
  | [], _, _, _ => Nat.le_refl _
  | r :: l, a, h, ha => by
    have h1 := wR1_len (h r (List.mem_cons_self ..)) ha
    have h2 := wRs_len l (rlast r) (fun x hx => h x (List.mem_cons_of_mem _ hx)) (rlast_nn (h r (List.mem_cons_self ..)))
    rw [wRs, List.length_append, List.length_cons]
    omega
theorem rn_mem {l : List Rn} (h : ∀ i, i < l.length → rnAt l i = true) : ∀ r ∈ l, rnIs r = true := fun r hr => by
  obtain ⟨i, hi, rfl⟩ := List.mem_iff_getElem.1 hr
  rw [rn_eq hi]
  exact (rnAt_spec (h i hi)).1
theorem wVs_len : ∀ (l : List Int) (a : Int), l.all bkV = true → bkV a = true → (wVs a l).length ≤ 10 * l.length
  | [], _, _, _ => Nat.le_refl _
  | v :: l, a, h, ha => by
    simp only [List.all_cons, Bool.and_eq_true] at h
    have b1 := bkV_spec h.1
    have b2 := bkV_spec ha
    have h1 : (ub (fold (v - a))).length ≤ 10 := ub_ten (fold_lt (by omega) (by omega))
    have h2 := wVs_len l v h.2 h.1
    rw [wVs, List.length_append, List.length_cons]
    omega
theorem ub_fold9 {a : Int} (h0 : -2305844108725321728 ≤ a) (h1 : a ≤ 2305844108725321728) : (ub (fold a)).length ≤ 9 := ub_le 8 _ (by unfold fold; split <;> omega)
theorem wL_len {s : Sg} (h : SgOk s) : (wL s.kd s.q).length ≤ (if s.kd = 4 then 0 else 33) := by
  have a1 := ub_fold9 h.A0 h.A1
  have a2 : (ub (fold s.q.N)).length ≤ 10 := ub_ten (fold_lt (by have := h.N0; omega) (by have := h.N1; omega))
  have a3 : (ub s.q.R.toNat).length ≤ 7 := ub_seven (by have := h.R1; omega)
  have a4 : (ub s.q.D.toNat).length ≤ 7 := ub_seven (by have := h.D1; omega)
  unfold wL
  have h1 := h.k1
  have h4 := h.k4
  rcases (show s.kd = 1 ∨ s.kd = 2 ∨ s.kd = 3 ∨ s.kd = 4 by omega) with e | e | e | e <;> rw [e] <;> simp <;> omega
theorem wRuns_len {l : List Rn} (h : rnB l = true) : (wRuns l).length ≤ 2 + 16 * l.length := by
  obtain ⟨k0, k1, k2, k3⟩ := rnB_spec h
  have h1 := wRs_len l 0 (rn_mem k2) (Int.le_refl _)
  have h2 : (ub l.length).length ≤ 2 := ub_two k1
  unfold wRuns
  rw [List.length_append]
  omega
theorem ub_six {n : Nat} (h : n ≤ 1099511627776) : (ub n).length ≤ 6 := ub_le 5 n (Nat.lt_of_le_of_lt h (by decide))
theorem wSeg_len {s : Sg} (h : SgOk s) : (wSeg s).length ≤ 9 + 16 * s.l.length + 10 * s.vs.length + (if s.kd = 4 then 0 else 33) := by
  have h1 := wRuns_len h.rn
  have h2 := wL_len h
  have h3 := wVs_len s.vs 0 h.vs (by decide)
  have h4 : (ub s.er.toNat).length ≤ 6 := ub_six (by have := h.e1; omega)
  unfold wSeg
  simp only [List.length_append, List.length_cons]
  omega
end Go.Proofs.YtmpfbkeamihjbaaGreat

namespace Go.Proofs.YtmpfbkeamihjbaaGreat
open Go.RowKit
attribute [local go_sem] Oper.semAt_some

theorem wL_1 (A R N D : Int) : wL 1 ⟨A, R, N, D⟩ = ub (fold A) := by unfold wL; simp
theorem wL_2 (A R N : Int) (D : Nat) : wL 2 ⟨A, R, N, D⟩ = ub (fold N) ++ (ub D ++ ub (fold A)) := by unfold wL; simp
theorem wL_3 (A N : Int) (R D : Nat) : wL 3 ⟨A, R, N, D⟩ = ub R ++ (ub (fold N) ++ (ub D ++ ub (fold A))) := by unfold wL; simp
theorem wL_4 (A R N D : Int) : wL 4 ⟨A, R, N, D⟩ = [] := by unfold wL; simp

section
variable (g : Nat) (base : List Int) (A N : Int) (R D : Nat) (hA0 : -9223372036854775808 ≤ A) (hA1 : A ≤ 9223372036854775807) (hN0 : -9223372036854775808 ≤ N) (hN1 : N ≤ 9223372036854775807) (hR : R ≤ 281474976710656) (hD : D ≤ 281474976710656) (hb : base.length ≤ 400000) (w : World) (hW : Wr g base w)
set_option maxRecDepth 100000 in
set_option maxHeartbeats 2000000 in
include hA0 hA1 hb hW in
theorem w_line1 : Calls Tryz.prog 30 #[.pointer (some ⟨g, 0, none⟩), .int .i64 1, .agg #[.int .i64 A, .int .i64 (R : Int), .int .i64 N, .int .i64 (D : Int)]] w fun e w' => e = .returned (.tuple #[]) ∧ Exc g w w' ∧ Wr g (base ++ wL 1 ⟨A, R, N, D⟩) w' := by
  rw [wL_1]
  have c4 := fun (w : World) (hW : Wr g base w) => w_signed g base A hA0 hA1 (by omega) w hW
  have lgw : g < w.heap.size := hW.lt
  go_enter Tryz.func30, Tryz.ntmps30
  go_wp2_with fail
  refine (c4 _ (hW.below (bA (b0 _) (.cells #[.int .i64 A, .int .i64 (R : Int), .int .i64 N, .int .i64 (D : Int)] 24)))).mono ?_
  rintro e w1 ⟨rfl, hx1, rn_W1⟩
  have f_q1 := kx hx1 (na w #[.int .i64 A, .int .i64 (R : Int), .int .i64 N, .int .i64 (D : Int)] 24) (by omega)
  have hB1 := xX (xA (x0 g w (Nat.le_of_lt hW.lt)) (.cells #[.int .i64 A, .int .i64 (R : Int), .int .i64 N, .int .i64 (D : Int)] 24)) hx1 (by omega)
  obtain ⟨zq_a, zq_b, lq1⟩ := rcell f_q1
  go_wp2
  refine bodyPost_end (by simp [results, Tryz.results30, go_sem]; try rfl) rfl ⟨rfl, hB1, rn_W1⟩
set_option maxRecDepth 100000 in
set_option maxHeartbeats 2000000 in
include hA0 hA1 hN0 hN1 hD hb hW in
theorem w_line2 : Calls Tryz.prog 30 #[.pointer (some ⟨g, 0, none⟩), .int .i64 2, .agg #[.int .i64 A, .int .i64 (R : Int), .int .i64 N, .int .i64 (D : Int)]] w fun e w' => e = .returned (.tuple #[]) ∧ Exc g w w' ∧ Wr g (base ++ wL 2 ⟨A, R, N, D⟩) w' := by
  rw [wL_2]
  have l2 := ub_ten (fold_lt hN0 hN1)
  have l3 := ub_seven hD
  have c2 := fun (w : World) (hW : Wr g base w) => w_signed g base N hN0 hN1 (by omega) w hW
  have c3 := fun (w : World) (hW : Wr g (base ++ ub (fold N)) w) => w_plain g (base ++ ub (fold N)) D (by omega) (by rw [List.length_append]; omega) w hW
  have c4 := fun (w : World) (hW : Wr g (base ++ ub (fold N) ++ ub D) w) => w_signed g (base ++ ub (fold N) ++ ub D) A hA0 hA1 (by rw [List.length_append, List.length_append]; omega) w hW
  have lgw : g < w.heap.size := hW.lt
  go_enter Tryz.func30, Tryz.ntmps30
  go_wp2_with fail
  refine (c2 _ (hW.below (bA (b0 _) (.cells #[.int .i64 A, .int .i64 (R : Int), .int .i64 N, .int .i64 (D : Int)] 24)))).mono ?_
  rintro e w1 ⟨rfl, hx1, rn_W1⟩
  have f_q1 := kx hx1 (na w #[.int .i64 A, .int .i64 (R : Int), .int .i64 N, .int .i64 (D : Int)] 24) (by omega)
  have hB1 := xX (xA (x0 g w (Nat.le_of_lt hW.lt)) (.cells #[.int .i64 A, .int .i64 (R : Int), .int .i64 N, .int .i64 (D : Int)] 24)) hx1 (by omega)
  obtain ⟨zq_a, zq_b, lq1⟩ := rcell f_q1
  go_wp2_with fail
  refine (c3 _ rn_W1).mono ?_
  rintro e w2 ⟨rfl, hx2, rn_W2⟩
  have f_q2 := kx hx2 (f_q1) (by omega)
  have hB2 := xX hB1 hx2 (by omega)
  clear zq_a zq_b
  obtain ⟨zq_a, zq_b, lq2⟩ := rcell f_q2
  go_wp2_with fail
  refine (c4 _ rn_W2).mono ?_
  rintro e w3 ⟨rfl, hx3, rn_W3⟩
  have f_q3 := kx hx3 (f_q2) (by omega)
  have hB3 := xX hB2 hx3 (by omega)
  clear zq_a zq_b
  obtain ⟨zq_a, zq_b, lq3⟩ := rcell f_q3
  go_wp2
  refine bodyPost_end (by simp [results, Tryz.results30, go_sem]; try rfl) rfl ⟨rfl, hB3, ?_⟩
  have := rn_W3
  rwa [List.append_assoc, List.append_assoc] at this
set_option maxRecDepth 100000 in
set_option maxHeartbeats 2000000 in
include hA0 hA1 hN0 hN1 hR hD hb hW in
theorem w_line3 : Calls Tryz.prog 30 #[.pointer (some ⟨g, 0, none⟩), .int .i64 3, .agg #[.int .i64 A, .int .i64 (R : Int), .int .i64 N, .int .i64 (D : Int)]] w fun e w' => e = .returned (.tuple #[]) ∧ Exc g w w' ∧ Wr g (base ++ wL 3 ⟨A, R, N, D⟩) w' := by
  rw [wL_3]
  have l1 := ub_seven hR
  have l2 := ub_ten (fold_lt hN0 hN1)
  have l3 := ub_seven hD
  have c1 := fun (w : World) (hW : Wr g base w) => w_plain g base R (by omega) (by omega) w hW
  have c2 := fun (w : World) (hW : Wr g (base ++ ub R) w) => w_signed g (base ++ ub R) N hN0 hN1 (by rw [List.length_append]; omega) w hW
  have c3 := fun (w : World) (hW : Wr g (base ++ ub R ++ ub (fold N)) w) => w_plain g (base ++ ub R ++ ub (fold N)) D (by omega) (by rw [List.length_append, List.length_append]; omega) w hW
  have c4 := fun (w : World) (hW : Wr g (base ++ ub R ++ ub (fold N) ++ ub D) w) => w_signed g (base ++ ub R ++ ub (fold N) ++ ub D) A hA0 hA1 (by rw [List.length_append, List.length_append, List.length_append]; omega) w hW
  have lgw : g < w.heap.size := hW.lt
  go_enter Tryz.func30, Tryz.ntmps30
  go_wp2_with fail
  refine (c1 _ (hW.below (bA (b0 _) (.cells #[.int .i64 A, .int .i64 (R : Int), .int .i64 N, .int .i64 (D : Int)] 24)))).mono ?_
  rintro e w1 ⟨rfl, hx1, rn_W1⟩
  have f_q1 := kx hx1 (na w #[.int .i64 A, .int .i64 (R : Int), .int .i64 N, .int .i64 (D : Int)] 24) (by omega)
  have hB1 := xX (xA (x0 g w (Nat.le_of_lt hW.lt)) (.cells #[.int .i64 A, .int .i64 (R : Int), .int .i64 N, .int .i64 (D : Int)] 24)) hx1 (by omega)
  obtain ⟨zq_a, zq_b, lq1⟩ := rcell f_q1
  go_wp2_with fail
  refine (c2 _ rn_W1).mono ?_
  rintro e w2 ⟨rfl, hx2, rn_W2⟩
  have f_q2 := kx hx2 (f_q1) (by omega)
  have hB2 := xX hB1 hx2 (by omega)
  clear zq_a zq_b
  obtain ⟨zq_a, zq_b, lq2⟩ := rcell f_q2
  go_wp2_with fail
  refine (c3 _ rn_W2).mono ?_
  rintro e w3 ⟨rfl, hx3, rn_W3⟩
  have f_q3 := kx hx3 (f_q2) (by omega)
  have hB3 := xX hB2 hx3 (by omega)
  clear zq_a zq_b
  obtain ⟨zq_a, zq_b, lq3⟩ := rcell f_q3
  go_wp2_with fail
  refine (c4 _ rn_W3).mono ?_
  rintro e w4 ⟨rfl, hx4, rn_W4⟩
  have f_q4 := kx hx4 (f_q3) (by omega)
  have hB4 := xX hB3 hx4 (by omega)
  clear zq_a zq_b
  obtain ⟨zq_a, zq_b, lq4⟩ := rcell f_q4
  go_wp2
  refine bodyPost_end (by simp [results, Tryz.results30, go_sem]; try rfl) rfl ⟨rfl, hB4, ?_⟩
  have := rn_W4
  rwa [List.append_assoc, List.append_assoc, List.append_assoc] at this
set_option maxRecDepth 100000 in
set_option maxHeartbeats 2000000 in
include hW in
theorem w_line4 : Calls Tryz.prog 30 #[.pointer (some ⟨g, 0, none⟩), .int .i64 4, .agg #[.int .i64 A, .int .i64 (R : Int), .int .i64 N, .int .i64 (D : Int)]] w fun e w' => e = .returned (.tuple #[]) ∧ Exc g w w' ∧ Wr g (base ++ wL 4 ⟨A, R, N, D⟩) w' := by
  rw [wL_4, List.append_nil]
  have lgw : g < w.heap.size := hW.lt
  go_enter Tryz.func30, Tryz.ntmps30
  go_wp2
  refine bodyPost_end (by simp [results, Tryz.results30, go_sem]; try rfl) rfl ⟨rfl, (xA (x0 g w (Nat.le_of_lt hW.lt)) (.cells #[.int .i64 A, .int .i64 (R : Int), .int .i64 N, .int .i64 (D : Int)] 24)), (hW.below (bA (b0 _) (.cells #[.int .i64 A, .int .i64 (R : Int), .int .i64 N, .int .i64 (D : Int)] 24)))⟩
end

theorem w_line (g : Nat) (base : List Int) (s : Sg) (h : SgOk s) (hb : base.length ≤ 400000) (w : World) (hW : Wr g base w) :
    Calls Tryz.prog 30 #[.pointer (some ⟨g, 0, none⟩), .int .i64 s.kd, .agg #[.int .i64 s.q.A, .int .i64 s.q.R, .int .i64 s.q.N, .int .i64 s.q.D]] w fun e w' => e = .returned (.tuple #[]) ∧ Exc g w w' ∧ Wr g (base ++ wL s.kd s.q) w' := by
  obtain ⟨k1, k4, -, -, -, A0, A1, N0, N1, R0, R1, D0, D1, -⟩ := h
  obtain ⟨kd, l, ⟨A, R, N, D⟩, vs, er⟩ := s
  simp only at *
  obtain ⟨R, rfl⟩ : ∃ R' : Nat, R = R' := ⟨R.toNat, by omega⟩
  obtain ⟨D, rfl⟩ : ∃ R' : Nat, D = R' := ⟨D.toNat, by omega⟩
  rcases (show kd = 1 ∨ kd = 2 ∨ kd = 3 ∨ kd = 4 by omega) with rfl | rfl | rfl | rfl
  · exact w_line1 g base A N R D (by omega) (by omega) hb w hW
  · exact w_line2 g base A N R D (by omega) (by omega) (by omega) (by omega) (by omega) hb w hW
  · exact w_line3 g base A N R D (by omega) (by omega) (by omega) (by omega) (by omega) (by omega) hb w hW
  · exact w_line4 g base A N R D w hW
end Go.Proofs.YtmpfbkeamihjbaaGreat

namespace Go.Proofs.YtmpfbkeamihjbaaGreat
open Go.RowKit
attribute [local go_sem] Oper.semAt_some

theorem v_drop {l : List Int} {k : Nat} (h : k < l.length) : l.drop k = l[k] :: l.drop (k + 1) := List.drop_eq_getElem_cons h

section
variable (RA VA : Option Addr) (rc vc : Nat) (l : List Rn) (vs : List Int) (kd A R N D er : Int) (w : World) (hR : RR w RA rc l) (hV : VR w VA vc vs)
set_option maxRecDepth 100000 in
set_option maxHeartbeats 4000000 in
include hR hV in
theorem encode_yes (h : sgB ⟨kd, l, ⟨A, R, N, D⟩, vs, er⟩ = true) : Calls Tryz.prog 10 #[.agg #[.int .i64 kd, .slice RA l.length rc, .int .i64 A, .int .i64 R, .int .i64 N, .int .i64 D, .slice VA vs.length vc, .int .i64 er]] w fun e w' => ∃ A' c' n', e = .returned (.tuple #[.slice A' n' c', .int .i64 0]) ∧ Hid (n' = (wSeg ⟨kd, l, ⟨A, R, N, D⟩, vs, er⟩).length) ∧ YR w' A' c' (wSeg ⟨kd, l, ⟨A, R, N, D⟩, vs, er⟩) ∧ Below w.heap.size w w' := by
  have c1 := fun w hR hV => seg_Check RA VA rc vc l vs kd A R N D er w hR hV
  rw [h, if_pos rfl] at c1
  have ok := sg_ok h
  have hlen := wSeg_len ok
  have hl2 := (rnB_spec ok.rn).2.1
  have hvl := ok.vl
  simp only at hl2 hvl hlen
  have hlen2 : (wSeg ⟨kd, l, ⟨A, R, N, D⟩, vs, er⟩).length ≤ 20000 := by split at hlen <;> omega
  have hpart : (ub er.toNat).length + (wRuns l).length + (wL kd ⟨A, R, N, D⟩).length + (wVs 0 vs).length ≤ 20000 := by
    unfold wSeg at hlen2
    simp only [List.length_append, List.length_cons] at hlen2
    omega
  have e0 := ok.e0
  have e1 := ok.e1
  have k1 := ok.k1
  have k4 := ok.k4
  have hvs := ok.vs
  have hrn := ok.rn
  simp only at e0 e1 k1 k4 hvs hrn
  have c2 := fun (g : Nat) (base : List Int) (hb : base.length ≤ 400000) w hW => w_line g base ⟨kd, l, ⟨A, R, N, D⟩, vs, er⟩ ok hb w hW
  simp only at c2
  have HW : Hid (wSeg ⟨kd, l, ⟨A, R, N, D⟩, vs, er⟩ = [kd] ++ ub er.toNat ++ wRuns l ++ wL kd ⟨A, R, N, D⟩ ++ wVs 0 vs) := hide (by unfold wSeg; simp only [List.append_assoc, List.cons_append, List.nil_append])
  obtain ⟨E, rfl⟩ : ∃ E : Nat, er = E := ⟨er.toNat, by omega⟩
  simp only [Int.toNat_natCast] at HW hpart
  have HP := hide hpart
  have HVS := hide hvs
  have hc3 := fun g (base : List Int) (hbl : base.length + (wRuns l).length ≤ 500000) w hW hR => w_runs g base RA rc l hrn hbl w hW hR
  clear ok hlen hlen2 hl2 hpart h hvs hrn
  generalize wL kd ⟨A, R, N, D⟩ = L4 at *
  go_enter Tryz.func10, Tryz.ntmps10
  go_wp2_with fail
  refine (c1 _ (hR.below (bA (b0 _) (.cells #[.int .i64 kd, .slice RA l.length rc, .int .i64 A, .int .i64 R, .int .i64 N, .int .i64 D, .slice VA vs.length vc, .int .i64 (E : Int)] 27))) (hV.below (bA (b0 _) (.cells #[.int .i64 kd, .slice RA l.length rc, .int .i64 A, .int .i64 R, .int .i64 N, .int .i64 D, .slice VA vs.length vc, .int .i64 (E : Int)] 27)))).mono ?_
  rintro e w1 ⟨rfl, hb1⟩
  have f_s1 := kp hb1 (na w #[.int .i64 kd, .slice RA l.length rc, .int .i64 A, .int .i64 R, .int .i64 N, .int .i64 D, .slice VA vs.length vc, .int .i64 (E : Int)] 27)
  have rd_l1 := (hR.below (bA (b0 _) (.cells #[.int .i64 kd, .slice RA l.length rc, .int .i64 A, .int .i64 R, .int .i64 N, .int .i64 D, .slice VA vs.length vc, .int .i64 (E : Int)] 27))).below hb1
  have rd_v1 := (hV.below (bA (b0 _) (.cells #[.int .i64 kd, .slice RA l.length rc, .int .i64 A, .int .i64 R, .int .i64 N, .int .i64 D, .slice VA vs.length vc, .int .i64 (E : Int)] 27))).below hb1
  have hB1 := bB (bA (b0 w) (.cells #[.int .i64 kd, .slice RA l.length rc, .int .i64 A, .int .i64 R, .int .i64 N, .int .i64 D, .slice VA vs.length vc, .int .i64 (E : Int)] 27)) hb1
  obtain ⟨zs_a, zs_b, ls1⟩ := rcell f_s1
  go_wp2_with fail
  generalize hw2 : (World.alloc _ (.cells #[.slice (some ⟨w1.heap.size, 0, none⟩) 1 1] 57)) = w2
  have jW : Wr (w1.heap.size + 1) [kd] w2 := by
    rw [← hw2]
    refine ⟨_, _, _, na1 w1 _ _ _, hide rfl, ?_⟩
    exact (CR.oneI w1 kd).below (bA (b0 _) _)
  have B2 : Below w1.heap.size w1 w2 := by rw [← hw2]; exact bA (bA (b0 w1) _) _
  clear hw2
  have f_s2 := kp B2 (f_s1)
  have rl2 := (rd_l1).below B2
  have rv2 := (rd_v1).below B2
  have BB2 := bB hB1 B2
  clear c1
  obtain ⟨zs_a, zs_b, ls2⟩ := rcell f_s2
  have lw1 : w.heap.size ≤ w1.heap.size := hB1.size
  go_wp2_with fail
  refine (w_plain (w1.heap.size + 1) [kd] E (by omega) (by simp) _ jW).mono ?_
  rintro e w3 ⟨rfl, hx3, rn_W3⟩
  have f_s3 := kx hx3 (f_s2) (by omega)
  have rd_l3 := (rl2).wr hx3 jW
  have rd_v3 := (rv2).wr hx3 jW
  have hB3 := bX BB2 hx3 (by omega)
  clear zs_a zs_b
  obtain ⟨zs_a, zs_b, ls3⟩ := rcell f_s3
  go_wp2_with fail
  refine (hc3 (w1.heap.size + 1) ([kd] ++ ub E) (by have := HP.out; simp only [List.length_append, List.length_cons, List.length_nil]; omega) _ rn_W3 rd_l3).mono ?_
  rintro e w4 ⟨rfl, hx4, rn_W4⟩
  have f_s4 := kx hx4 (f_s3) (by omega)
  have rd_l4 := (rd_l3).wr hx4 rn_W3
  have rd_v4 := (rd_v3).wr hx4 rn_W3
  have hB4 := bX hB3 hx4 (by omega)
  clear zs_a zs_b
  obtain ⟨zs_a, zs_b, ls4⟩ := rcell f_s4
  go_wp2_with fail
  refine (c2 (w1.heap.size + 1) ([kd] ++ ub E ++ wRuns l) (by have := HP.out; simp only [List.length_append, List.length_cons, List.length_nil]; omega) _ rn_W4).mono ?_
  rintro e w5 ⟨rfl, hx5, rn_W5⟩
  have f_s5 := kx hx5 (f_s4) (by omega)
  have rd_l5 := (rd_l4).wr hx5 rn_W4
  have rd_v5 := (rd_v4).wr hx5 rn_W4
  have hB5 := bX hB4 hx5 (by omega)
  clear zs_a zs_b
  obtain ⟨zs_a, zs_b, ls5⟩ := rcell f_s5
  have lgw := (rn_W5).lt
  go_wp2_with fail
  have hB3 := hB5
  have f_s3 := (f_s5)
  have jW3 := rn_W5
  have jv3 := rd_v5
  clear c2 hc3
  go_loopw [6, 37] (fun va vi wr => ∃ (k : Nat) (a : Int) (pre : List Int), vi = .int .i64 k ∧ va = .int .i64 a ∧ k ≤ vs.length ∧ Hid (pre ++ wVs a (vs.drop k) = wVs 0 vs) ∧ Hid (bkV a = true) ∧ Wr (w1.heap.size + 1) ([kd] ++ ub E ++ wRuns l ++ L4 ++ pre) wr ∧ VR wr VA vc vs ∧ Below w.heap.size w wr) (fun _ vi _ => vs.length - (intOf vi).toNat)
  case atStart => exact ⟨0, 0, [], rfl, rfl, by omega, hide rfl, hide (by decide), by rw [List.append_nil]; exact jW3, jv3, hB3⟩
  case round =>
    obtain ⟨k, a, pre, rfl, rfl, hk, hpre, ha, jw, jv, hb⟩ := hrel
    by_cases hlt : k < vs.length
    · obtain ⟨gv, ov, hA', z1⟩ := jv.at_ hlt
      have hav := bkV_spec ha.out
      have hb2 : bkV vs[k] = true := List.all_eq_true.1 HVS.out _ (List.getElem_mem hlt)
      have hbv := bkV_spec hb2
      have HB2 := hide hb2
      have hlen : pre.length + (ub (fold (vs[k] - a))).length ≤ (wVs 0 vs).length := by
        have e := hpre.out
        rw [v_drop hlt, wVs] at e
        have e2 := congrArg List.length e
        simp only [List.length_append] at e2
        omega
      have hp2 : Hid (pre ++ ub (fold (vs[k] - a)) ++ wVs vs[k] (vs.drop (k + 1)) = wVs 0 vs) := hide (by rw [← hpre.out, v_drop hlt, wVs, List.append_assoc])
      have HA' := hide hA'
      clear hb2 hA'
      generalize vs[k] = v at *
      have hLen := hide hlen
      clear hlen
      have lgr := jw.lt
      obtain rfl := HA'.out
      go_wp2_with fail
      refine (w_signed (w1.heap.size + 1) ([kd] ++ ub E ++ wRuns l ++ L4 ++ pre) (v - a) (by omega) (by omega) (by have := HP.out; have := hLen.out; simp only [List.length_append, List.length_cons, List.length_nil]; omega) _ jw).mono ?_
      rintro e w6 ⟨rfl, hx6, rn_W6⟩
      have rd_v6 := (jv).wr hx6 jw
      have hB6 := bX hb hx6 (by omega)
      have jW4 := rn_W6
      rw [List.append_assoc] at jW4
      go_wp2
      go_roundw
      case rel => exact ⟨k + 1, v, _, by go_num, rfl, by omega, hp2, hide HB2.out, jW4, rd_v6, hB6⟩
      case measure => simp [intOf]; omega
    · obtain rfl : k = vs.length := by omega
      have hfin : pre = wVs 0 vs := by
        have := hpre.out
        rwa [List.drop_length, wVs, List.append_nil] at this
      subst hfin
      rw [← HW.out] at jw
      obtain ⟨A', c', n', f1, hn', hy⟩ := jw
      obtain ⟨z1, z2, z3⟩ := rcell f1
      go_wp2
      go_ret2
      exact ⟨A', c', n', rfl, hn', hy, hb⟩
set_option maxRecDepth 100000 in
include hR hV in
theorem size_yes (h : sgB ⟨kd, l, ⟨A, R, N, D⟩, vs, er⟩ = true) : Calls Tryz.prog 11 #[.agg #[.int .i64 kd, .slice RA l.length rc, .int .i64 A, .int .i64 R, .int .i64 N, .int .i64 D, .slice VA vs.length vc, .int .i64 er]] w fun e w' => e = .returned (.tuple #[.int .i64 (wSeg ⟨kd, l, ⟨A, R, N, D⟩, vs, er⟩).length, .int .i64 0]) ∧ Below w.heap.size w w' := by
  have c1 := fun w hR hV => encode_yes RA VA rc vc l vs kd A R N D er w hR hV h
  clear h
  generalize wSeg ⟨kd, l, ⟨A, R, N, D⟩, vs, er⟩ = q at *
  go_enter Tryz.func11, Tryz.ntmps11
  have hE := (bA (b0 w) (.cells #[.int .i64 kd, .slice RA l.length rc, .int .i64 A, .int .i64 R, .int .i64 N, .int .i64 D, .slice VA vs.length vc, .int .i64 er] 27))
  go_wp2_with fail
  refine (c1 _ (hR.below (bA (b0 _) (.cells #[.int .i64 kd, .slice RA l.length rc, .int .i64 A, .int .i64 R, .int .i64 N, .int .i64 D, .slice VA vs.length vc, .int .i64 er] 27))) (hV.below (bA (b0 _) (.cells #[.int .i64 kd, .slice RA l.length rc, .int .i64 A, .int .i64 R, .int .i64 N, .int .i64 D, .slice VA vs.length vc, .int .i64 er] 27)))).mono ?_
  rintro e w1 ⟨A', c', n', rfl, hn, hy, hb⟩
  go_wp2
  go_ret2
  exact ⟨by rw [← hn.out]; rfl, bB hE hb⟩
end
end Go.Proofs.YtmpfbkeamihjbaaGreat
