/- yearbookref07.Same, Right at this program. yearbookref11 at this program: Points, Kind. yearbookref11.Right at this program: it is what seg.Check asks. yearbookref11.Same of whatever segment and itself. -/
import Derived.Test.YtmpfbkeamihjbaaGreatR2
import Derived.Test.YtmpfbkeamihjbaaGreatQ7
import Derived.Test.YtmpfbkeamihjbaaGreatLawE1
import Derived.Test.YtmpfbkeamihjbaaGreatR5
import Derived.Test.YtmpfbkeamihjbaaGreatQ2
import Derived.Test.YtmpfbkeamihjbaaGreatLineRisesP
import Derived.Test.YtmpfbkeamihjbaaGreatR7
import Derived.Test.YtmpfbkeamihjbaaGreatQ1
set_option linter.unusedSimpArgs false
set_option linter.unusedVariables false
namespace Go.Proofs.YtmpfbkeamihjbaaGreat
open Go.RowKit
attribute [local go_sem] Oper.semAt_some

theorem ref07_Same_eq (A B : Option Addr) (c d : Nat) (l : List Rn) (w : World) (hR : RR w A c l) (hS : RR w B d l) :
    Calls Tryz.prog 40 #[.slice A l.length c, .slice B l.length d] w fun e w' => e = .returned (.bool true) ∧ Below w.heap.size w w' := by
  by_cases h0 : 0 < l.length
  · exact same_runs A B c d l h0 w hR hS
  · obtain rfl : l = [] := List.eq_nil_of_length_eq_zero (by omega)
    clear hR hS
    go_enter Tryz.func40, Tryz.ntmps40
    go_wp2_with fail
    refine wp_loop_rounds 1 ?_
    rw [rounds_succ]
    go_wp2
    go_ret
    exact ⟨rfl, b0 w⟩
set_option maxRecDepth 100000 in
set_option maxHeartbeats 1000000 in
theorem ref07_Same_ne (A B : Option Addr) (c d n : Nat) (xs ys : List Rn) (hl : xs.length = n) (hl' : ys.length = n) (hne : xs ≠ ys) (w : World) (hR : RR w A c xs) (hS : RR w B d ys) :
    Calls Tryz.prog 40 #[.slice A n c, .slice B n d] w fun e w' => e = .returned (.bool false) ∧ Below w.heap.size w w' := by
  by_cases h0 : 0 < n
  · obtain ⟨g, o, cur, rfl, hg, hc⟩ := hR.mem (by omega)
    obtain ⟨g', o', cur', rfl, hg', hc'⟩ := hS.mem (by omega)
    have hcap := hR.cap
    have hcap' := hS.cap
    rw [hl] at hcap
    rw [hl'] at hcap'
    have HC := hide hc
    have HC' := hide hc'
    have HL := hide hl
    have HL' := hide hl'
    have htop := hR.top
    have htop' := hS.top
    have HN := hide hne
    clear hc hc' hR hS hl hl' hne
    go_enter Tryz.func40, Tryz.ntmps40
    obtain ⟨zg_a, zg_b, lg0⟩ := rcell hg
    obtain ⟨zh_a, zh_b, lh0⟩ := rcell hg'
    go_wp2_with fail
    go_loopw [5] (fun vi wr => ∃ k : Nat, vi = .int .i64 k ∧ k ≤ n ∧ Hid (xs.take k = ys.take k) ∧ wr.heap[g]? = some (.cells cur 46 (0, 0)) ∧ wr.heap[g']? = some (.cells cur' 46 (0, 0)) ∧ Below w.heap.size w wr) (fun vi _ => n - (intOf vi).toNat)
    case atStart => exact ⟨0, rfl, by omega, hide rfl, (hg), (hg'), (b0 w)⟩
    case round =>
      obtain ⟨k, rfl, hk, hp, j1, j2, hb⟩ := hrel
      by_cases hlt : k < n
      · have k1 : k < xs.length := by rw [HL.out]; exact hlt
        have k2 : k < ys.length := by rw [HL'.out]; exact hlt
        obtain ⟨q1, q2, q3⟩ := HC.out k k1
        obtain ⟨p1, p2, p3⟩ := HC'.out k k2
        have hp' : Hid (xs[k] = ys[k] → xs.take (k + 1) = ys.take (k + 1)) := hide fun e => by
          rw [List.take_add_one, List.take_add_one, hp.out, List.getElem?_eq_getElem k1, List.getElem?_eq_getElem k2, e]
        have hp2 : Hid (xs[k] = ys[k] → k + 1 = n → False) := hide fun e e2 => HN.out (by
          have := hp'.out e
          rwa [List.take_of_length_le (by rw [HL.out]; omega), List.take_of_length_le (by rw [HL'.out]; omega)] at this)
        generalize xs[k] = x at *
        generalize ys[k] = y at *
        clear k1 k2
        by_cases hxy : x = y
        · subst hxy
          obtain ⟨zg_a, zg_b, lg1⟩ := rcell j1
          obtain ⟨zh_a, zh_b, lh2⟩ := rcell j2
          go_wp2_with fail
          refine Abs.wp_region_abs (Abs.cls0 _) [0, 1, 2, 3, 4, 5, 6, 7, 8] (by kernel_rfl) (by kernel_rfl) (Below.refl _ _).drew ?_
          repeat (first | (refine Abs.step_pure rfl rfl (fun K hK => ?_); go_simp; (try go_bits); (first | refine hK _ _ ?_ | (simp only [↓IntWalk.iteOmega]; go_simp; (try go_bits); refine hK _ _ ?_)); clear hK K) | (refine Abs.step_load (v := ?_) rfl rfl (by kernel_rfl) rfl (fun w0 hI => ?_) (fun K hK => ?_); rotate_left; (· have z0 := (rcell (kp hI (j1))).1; have z1 := (rcell (kp hI (j2))).1; go_simp; rfl); (simp only [Act.put, List.setIfInBounds_toArray, List.set_cons_zero, List.set_cons_succ]; refine hK _ _ ?_; clear hK K)) | (refine Abs.step_skip rfl rfl (fun K hK => ?_); (simp only [Act.put, List.setIfInBounds_toArray, List.set_cons_zero, List.set_cons_succ]; refine hK _ _ ?_; clear hK K)))
          intro w4 hb4 hx0 hx1 hx2
          clear hx0 hx1 hx2
          simp only [Abs.T_setF, Abs.T_addA, Abs.T_push, Abs.T_start]
          have f_g4 := kp hb4 (j1)
          have f_h4 := kp hb4 (j2)
          have hB4 := bB hb hb4
          clear zg_a zg_b zh_a zh_b
          obtain ⟨zg_a, zg_b, lg4⟩ := rcell f_g4
          obtain ⟨zh_a, zh_b, lh4⟩ := rcell f_h4
          go_wp2
          go_roundw
          case rel => exact ⟨k + 1, by go_num, by omega, hide (hp'.out (by trivial)), (f_g4), (f_h4), hB4⟩
          case measure => simp [intOf]; omega
        · have hxx : ¬ (x.f = y.f ∧ x.s = y.s ∧ x.n = y.n) := fun h => hxy (by cases x; cases y; simp_all)
          have hq := fun w => run_eql3 x.f x.s x.n y.f y.s y.n w
          rw [decide_eq_false hxx, Bool.not_false] at hq
          clear hxx
          obtain ⟨zg_a, zg_b, lg5⟩ := rcell j1
          obtain ⟨zh_a, zh_b, lh6⟩ := rcell j2
          go_wp2_with fail
          refine Abs.wp_region_abs (Abs.cls0 _) [0, 1, 2, 3, 4, 5, 6, 7, 8] (by kernel_rfl) (by kernel_rfl) (Below.refl _ _).drew ?_
          repeat (first | (refine Abs.step_pure rfl rfl (fun K hK => ?_); go_simp; (try go_bits); (first | refine hK _ _ ?_ | (simp only [↓IntWalk.iteOmega]; go_simp; (try go_bits); refine hK _ _ ?_)); clear hK K) | (refine Abs.step_load (v := ?_) rfl rfl (by kernel_rfl) rfl (fun w0 hI => ?_) (fun K hK => ?_); rotate_left; (· have z0 := (rcell (kp hI (j1))).1; have z1 := (rcell (kp hI (j2))).1; go_simp; rfl); (simp only [Act.put, List.setIfInBounds_toArray, List.set_cons_zero, List.set_cons_succ]; refine hK _ _ ?_; clear hK K)) | (refine Abs.step_skip rfl rfl (fun K hK => ?_); (simp only [Act.put, List.setIfInBounds_toArray, List.set_cons_zero, List.set_cons_succ]; refine hK _ _ ?_; clear hK K)))
          intro w8 hb8 hx0 hx1 hx2
          clear hx0 hx1 hx2
          simp only [Abs.T_setF, Abs.T_addA, Abs.T_push, Abs.T_start]
          have f_g8 := kp hb8 (j1)
          have f_h8 := kp hb8 (j2)
          have hB8 := bB hb hb8
          clear zg_a zg_b zh_a zh_b
          obtain ⟨zg_a, zg_b, lg8⟩ := rcell f_g8
          obtain ⟨zh_a, zh_b, lh8⟩ := rcell f_h8
          go_wp2
          go_ret
          exact ⟨rfl, hB8⟩
      · obtain rfl : k = n := by omega
        exact (HN.out (by
          have := hp.out
          rwa [List.take_of_length_le (by rw [HL.out]; omega), List.take_of_length_le (by rw [HL'.out]; omega)] at this)).elim
  · exact (hne (by rw [List.eq_nil_of_length_eq_zero (l := xs) (by omega), List.eq_nil_of_length_eq_zero (l := ys) (by omega)])).elim

theorem ref07_Same_far (A B : Option Addr) (c d n m : Nat) (hnm : n ≠ m) (w : World) :
    Calls Tryz.prog 40 #[.slice A n c, .slice B m d] w fun e w' => e = .returned (.bool false) ∧ Below w.heap.size w w' := by
  have e1 : ((n : Int) != (m : Int)) = true := by simp; omega
  go_enter Tryz.func40, Tryz.ntmps40
  go_wp2
  go_ret
  exact ⟨rfl, (b0 w)⟩
theorem ref07_Same (A B : Option Addr) (c d : Nat) (xs ys : List Rn) (w : World) (hR : RR w A c xs) (hS : RR w B d ys) :
    Calls Tryz.prog 40 #[.slice A xs.length c, .slice B ys.length d] w fun e w' => e = .returned (.bool (decide (xs = ys))) ∧ Below w.heap.size w w' := by
  by_cases he : xs = ys
  · subst he
    rw [decide_eq_true rfl]
    exact ref07_Same_eq A B c d xs w hR hS
  · rw [decide_eq_false he]
    by_cases hl : xs.length = ys.length
    · have := ref07_Same_ne A B c d xs.length xs ys rfl hl.symm he w hR hS
      rw [← hl]
      exact this
    · exact ref07_Same_far A B c d _ _ hl w

set_option maxRecDepth 100000 in
set_option maxHeartbeats 4000000 in
theorem ref07_Right (A : Option Addr) (c : Nat) (l : List Rn) (w : World) (hR : RR w A c l) :
    Calls Tryz.prog 32 #[.slice A l.length c] w fun e w' => e = .returned (.bool (rnB l)) ∧ Below w.heap.size w w' := by
  have cT := fun w hR => ref07_Times A c l w hR
  have hri := hide (right_iff l)
  go_enter Tryz.func32, Tryz.ntmps32
  go_wp2_with fail
  refine (cT _ hR).mono ?_
  rintro e wa ⟨B, d, n, rfl, hn, hv, ba⟩
  have ra := hR.below ba
  obtain rfl := hn.out
  have cR := fun w hR => ref07_Rising B d (tmR l) w hR
  cases hrs : rsB (tmR l)
  · rw [hrs] at cR
    have hres : Hid (rnB l = false) := hide (by rw [hri.out, hrs]; rfl)
    go_wp2_with fail
    refine (cR _ hv).mono ?_
    rintro e w1 ⟨rfl, hb1⟩
    have rd_l1 := ra.below hb1
    have rd_v1 := hv.below hb1
    have hB1 := bB ba hb1
    go_wp2
    go_ret
    exact ⟨by rw [hres.out] <;> rfl, hB1⟩
  · rw [hrs] at cR
    have hsp := hrs
    unfold rsB at hsp
    simp only [Bool.and_eq_true, decide_eq_true_eq] at hsp
    obtain ⟨a1, a2, a3⟩ := hsp
    have cO := fun w hR => ref07_Of B d (tmR l) a3 a1 a2 w hR
    go_wp2_with fail
    refine (cR _ hv).mono ?_
    rintro e w2 ⟨rfl, hb2⟩
    have rd_l2 := ra.below hb2
    have rd_v2 := hv.below hb2
    have hB2 := bB ba hb2
    go_wp2_with fail
    refine (cO _ rd_v2).mono ?_
    rintro e wc ⟨B3, d3, n3, rfl, hn3, hr3, bc⟩
    obtain rfl := hn3.out
    have cS := fun w hR hS => ref07_Same B3 A d3 c (ofT (tmR l)) l w hR hS
    have r3 := (rd_l2).below bc
    have bcc := bB hB2 bc
    go_wp2_with fail
    refine (cS _ hr3 r3).mono ?_
    rintro e w3 ⟨rfl, hb3⟩
    have rd_l3 := r3.below hb3
    have rd_v3 := hr3.below hb3
    have hB3 := bB bcc hb3
    go_wp2
    go_ret
    exact ⟨by rw [hri.out, hrs, Bool.true_and] <;> rfl, hB3⟩
end Go.Proofs.YtmpfbkeamihjbaaGreat

namespace Go.Proofs.YtmpfbkeamihjbaaGreat
open Go.RowKit
attribute [local go_sem] Oper.semAt_some

theorem r2_at1 {w : World} {g : Nat} {a0 a1 : Value} {t : TypeId} {f : Nat × Nat} (h : w.heap[g]? = some (.cells #[a0, a1] t f)) (v : Value) : w.setCell ⟨g, 1, none⟩ v = setRow w g #[a0, v] := setRow_of_setCell h v rfl

/-- a row of points of the call's own, whatever it holds -/
def OwnT (B : Nat) (w : World) (v : Value) (n : Nat) : Prop := ∃ xs, w.ownsRow B 102 2 v n xs
theorem OwnT.lift {B : Nat} {w w' : World} {v : Value} {n : Nat} (h : OwnT B w v n) (hb : Below w.heap.size w w') : OwnT B w' v n := by
  obtain ⟨xs, h1, h2⟩ := h
  refine ⟨xs, h1, ?_⟩
  rcases h2 with h2 | ⟨g, cap, cur, h3, h4, h5, h6⟩
  · exact .inl h2
  · exact .inr ⟨g, cap, cur, h3, h4, (hb.block g (Array.getElem?_eq_some_iff.1 h5).1).trans h5, h6⟩
theorem OwnT.lt {B : Nat} {w : World} {v : Value} {n : Nat} (h : OwnT B w v n) : ∀ k, v.ownBlock = some k → B ≤ k := fun k hk => by
  obtain ⟨xs, h⟩ := h
  exact (World.ownsRow.lt h k hk).1
theorem OwnT.nil (B : Nat) (w : World) : OwnT B w (.slice none 0 0) 0 := ⟨[], World.ownsRow_nil w B _ 2⟩
theorem OwnT.at_block {B : Nat} {w : World} {v : Value} {n : Nat} (h : OwnT B w v n) {k : Nat} (hk : v.ownBlock = some k) : ∃ cur, w.heap[k]? = some (.cells cur 102 (0, 0)) := by
  obtain ⟨xs, -, ⟨rfl, -⟩ | ⟨g, cap, cur, rfl, -, hg, -⟩⟩ := h
  · cases hk
  · injection hk with hk
    subst hk
    exact ⟨cur, hg⟩
theorem point_info : (Tryz.prog.info? 102).map (fun i => (i.zero, i.size, i.bytes)) = some (some (.agg #[.int .i64 0, .int .i64 0]), 2, 16) := by kernel_rfl

set_option maxRecDepth 100000 in
theorem wpList_pushT {ops : Array Oper} {rest : List Oper} {o : Oper} {a : Act} {w : World} {Q : Exit → Act → World → Prop} (hgd : o.guard = none) (s x : Operand)
    (ho : o.op = .call { callee := .builtin .append, args := #[s, x], argTypes := #[65, 65] }) (B : Nat) (v : Value) (n : Nat) (g c : Nat) (t u : Int)
    (hs : a.eval s = v) (hx : a.eval x = .slice (some ⟨g, 0, none⟩) 1 c) (hown : OwnT B w v n) (hg : w.heap[g]? = some (.cells #[.int .i64 t, .int .i64 u] 102 (0, 0))) (hlen : n ≤ 4096) (hB : B ≤ w.heap.size)
    (h : ∀ v' w', OwnT B w' v' (n + 1) → (∀ w0 : World, Below B w0 w → Below B w0 w') → (∀ (g : Nat) (cs : Array Value) (t : TypeId), w.heap[g]? = some (.cells cs t (0, 0)) → t ≠ 102 → w'.heap[g]? = some (.cells cs t (0, 0))) → w.heap.size ≤ w'.heap.size → wpList Tryz.prog ops Q rest (a.put o.dst v') w') : wpList Tryz.prog ops Q (o :: rest) a w := by
  obtain ⟨i0, hi0, hz0, hz1, hz2⟩ := info_parts point_info
  have hown' := hown
  obtain ⟨xs, hw⟩ := hown'
  obtain ⟨v', w', hrun, h2, h3, _, _⟩ := run_append_own_at (P := Tryz.prog) w B 65 o.type 102 i0 (.agg #[.int .i64 0, .int .i64 0]) 2 16 Tryz.underlying65 hi0 hz0 hz1 hz2 rfl (by decide) v n xs hw ⟨g, 0, none⟩ 1 c [.int .i64 t, .int .i64 u] rfl (fun j y hj => by
      have q := rcell hg
      match j, hj with
      | 0, hj => injection hj with hj; subst hj; exact q.1 0
      | 1, hj => injection hj with hj; subst hj; exact q.1 1
      | j + 2, hj => exact absurd hj (by simp))
    (by intro y hy; simp only [List.mem_cons, List.not_mem_nil, or_false] at hy; rcases hy with rfl | rfl <;> rfl) (by simp only [maxLen]; omega) (by omega) hB
  refine wpList_plain hgd fun _ hK => ?_
  unfold Oper.wp execOp
  simp only [ho, resolve, invoke, builtin, Sem.run_bind, Sem.run_pure, Result.andThen_ok, List.map_toArray, List.map_cons, List.map_nil, hs, hx]
  rw [hrun]
  exact hK _ _ (h v' w' ⟨_, h2⟩ (fun w0 hb => hb.grown h3 hB hown.lt) (fun g cs t hg ht => grown_other (fun k hk => hown.at_block hk) h3 hg ht) h3.size)

set_option maxRecDepth 100000 in
theorem ref11_Kind (A R N D : Int) (w : World) :
    Calls Tryz.prog 35 #[.agg #[.int .i64 A, .int .i64 R, .int .i64 N, .int .i64 D]] w fun e w' => e = .returned (.int .i64 (if N = 0 then 1 else if R = 0 then 2 else 3)) ∧ Below w.heap.size w w' := by
  by_cases h1 : N = 0
  · rw [if_pos h1]
    subst h1
    go_enter Tryz.func35, Tryz.ntmps35
    go_wp2
    go_ret
    exact ⟨rfl, (bA (b0 w) (.cells #[.int .i64 A, .int .i64 R, .int .i64 0, .int .i64 D] 24))⟩
  · rw [if_neg h1]
    have d1 : (N == 0) = false := by simp [h1]
    by_cases h2 : R = 0
    · rw [if_pos h2]
      subst h2
      go_enter Tryz.func35, Tryz.ntmps35
      go_wp2
      go_ret
      exact ⟨rfl, (bA (b0 w) (.cells #[.int .i64 A, .int .i64 0, .int .i64 N, .int .i64 D] 24))⟩
    · rw [if_neg h2]
      have d2 : (R == 0) = false := by simp [h2]
      go_enter Tryz.func35, Tryz.ntmps35
      go_wp2
      go_ret
      exact ⟨rfl, (bA (b0 w) (.cells #[.int .i64 A, .int .i64 R, .int .i64 N, .int .i64 D] 24))⟩

/-- a call that hands back points, and a Bool -/
def GivesPt (z : Bool) (w : World) (e : Ending) (w' : World) : Prop := ∃ v, e = .returned (.tuple #[v, .bool z]) ∧ Below w.heap.size w w'
theorem all_at {α : Type} {p : α → Bool} {l : List α} {i : Nat} (h : i < l.length) (hp : p l[i] = false) : l.all p = false := by
  rw [Bool.eq_false_iff]
  intro q
  have := List.all_eq_true.1 q _ (List.getElem_mem h)
  rw [hp] at this
  cases this
theorem all_take {α : Type} {p : α → Bool} {l : List α} {k : Nat} (h : k < l.length) (h1 : (l.take k).all p = true) (hp : p l[k] = true) : (l.take (k + 1)).all p = true := by
  rw [List.take_succ_eq_append_getElem h, List.all_append, h1]
  simp [hp]

theorem rsC_first : ∀ (t : List Int) (lo : Int), rsC lo t = true → ∀ i (h : i < t.length) (h0 : 0 < t.length), t[0] ≤ t[i]
  | [], _, _, _, h, _ => absurd h (Nat.not_lt_zero _)
  | [x], lo, hr, i, h, _ => by
    obtain rfl : i = 0 := by simpa using h
    exact Int.le_refl _
  | x :: y :: r, lo, hr, i, h, _ => by
    obtain ⟨h1, h2, h3⟩ := rsC_cons.1 hr
    obtain ⟨h4, h5, h6⟩ := rsC_cons.1 h3
    match i, h with
    | 0, _ => exact Int.le_refl _
    | i + 1, h =>
      have := rsC_first (y :: r) x h3 i (by simpa using h) (by simp)
      simp only [List.getElem_cons_zero, List.getElem_cons_succ] at this ⊢
      omega

section
variable (RA VA : Option Addr) (rc vc : Nat) (l : List Rn) (vs : List Int) (kd A R N D er : Int)
set_option maxRecDepth 100000 in
set_option maxHeartbeats 8000000 in
theorem ref11_Points_raw (hs : rsB (tmR l) = true) (w : World) (hR : RR w RA rc l) (hl : vs.length = (tmR l).length) (hV : VR w VA vc vs) :
    Calls Tryz.prog 36 #[.agg #[.int .i64 4, .slice RA l.length rc, .int .i64 A, .int .i64 R, .int .i64 N, .int .i64 D, .slice VA vs.length vc, .int .i64 er]] w (GivesPt (vs.all bkV) w) := by
  have cT := fun w hR => ref07_Times RA rc l w hR
  unfold rsB at hs
  simp only [Bool.and_eq_true, decide_eq_true_eq] at hs
  obtain ⟨a1, a2, a3⟩ := hs
  have HBd := hide (rsC_bd (tmR l) (-1) (by decide) a3)
  clear a3
  generalize tmR l = T at *
  generalize hz : (vs.all bkV) = z
  have HZ := hide hz
  clear hz
  have HHl := hide hl
  clear hl
  go_enter Tryz.func36, Tryz.ntmps36
  go_wp2_with fail
  refine (cT _ (hR.below (bA (b0 _) (.cells #[.int .i64 4, .slice RA l.length rc, .int .i64 A, .int .i64 R, .int .i64 N, .int .i64 D, .slice VA vs.length vc, .int .i64 er] 27)))).mono ?_
  rintro e wa ⟨B, d, n, rfl, hn, hv, ba⟩
  obtain rfl := hn.out
  have fs := kp ba (na w #[.int .i64 4, .slice RA l.length rc, .int .i64 A, .int .i64 R, .int .i64 N, .int .i64 D, .slice VA vs.length vc, .int .i64 er] 27)
  have Ba := bB (bA (b0 w) (.cells #[.int .i64 4, .slice RA l.length rc, .int .i64 A, .int .i64 R, .int .i64 N, .int .i64 D, .slice VA vs.length vc, .int .i64 er] 27)) ba
  have rv := ((hV.below (bA (b0 _) (.cells #[.int .i64 4, .slice RA l.length rc, .int .i64 A, .int .i64 R, .int .i64 N, .int .i64 D, .slice VA vs.length vc, .int .i64 er] 27)))).below ba
  have hvc := rv.cap
  have hvt := rv.top
  have HV := hide rv
  have htc := hv.cap
  have htt := hv.top
  have HVT := hide hv
  clear hn hv hR
  obtain ⟨zs_a, zs_b, ls1⟩ := rcell fs
  go_wp2_with fail
  go_loopw [5, 6] (fun vo vi wr => ∃ (k : Nat) (m : Nat) (v0 : Value), v0 = vo ∧ vi = .int .i64 k ∧ k ≤ T.length ∧ m ≤ k ∧ Hid ((vs.take k).all bkV = true) ∧ OwnT wa.heap.size wr v0 m ∧ Below wa.heap.size wa wr) (fun _ vi _ => T.length - (intOf vi).toNat)
  case atStart => exact ⟨0, 0, _, rfl, rfl, by omega, by omega, hide rfl, OwnT.nil _ _, b0 wa⟩
  case round =>
    obtain ⟨k, m, v0, rfl, rfl, hk2, hm, hP, ho, hb1⟩ := hrel
    have j1 := kp hb1 fs
    have hb := bB Ba hb1
    by_cases hlt : k < T.length
    · obtain ⟨gt', ot, curt, rfl, hgt, hct⟩ := HVT.out.mem (by omega)
      have hgtr := kp hb1 hgt
      have qt := hct k hlt
      have bt := HBd.out k hlt
      have hkv : k < vs.length := by have := HHl.out; omega
      obtain ⟨gv, ov, curv, rfl, hgv, hcv⟩ := HV.out.mem (by omega)
      have hgvr := kp hb1 hgv
      have qv := hcv k hkv
      have hst := hide (fun h1 h2 => all_take (p := bkV) (k := k) hkv h1 h2)
      have hno := hide (fun h2 => all_at (p := bkV) hkv h2)
      have cB := ref_Back0 vs[k]
      have hbe : bkB vs[k] = bkV vs[k] := by simp [bkB, bkV]
      rw [hbe] at cB
      clear hct hcv
      generalize hvk : vs[k] = x at *
      clear hvk
      have htk := hide (show True from trivial)
      generalize T[k] = t at *
      cases hbk : bkV x
      · have HF : Hid (z = false) := hide (HZ.out.symm.trans (hno.out hbk))
        rw [hbk] at cB
        clear hst hno hbk hP
        obtain ⟨zs_a, zs_b, ls2⟩ := rcell j1
        obtain ⟨zt_a, zt_b, lt3⟩ := rcell hgtr
        obtain ⟨zv_a, zv_b, lv4⟩ := rcell hgvr
        go_wp2_with fail
        refine (cB _).mono ?_
        rintro e wq ⟨rfl, rfl⟩
        go_wp2
        go_ret2
        exact ⟨_, by rw [HF.out]; rfl, (bA hb (.cells #[.int .i64 t, .int .i64 x] 102))⟩
      · have HP2 := hide (hst.out hP.out hbk)
        rw [hbk] at cB
        clear hst hno hbk hP
        obtain ⟨zs_a, zs_b, ls5⟩ := rcell j1
        obtain ⟨zt_a, zt_b, lt6⟩ := rcell hgtr
        obtain ⟨zv_a, zv_b, lv7⟩ := rcell hgvr
        go_wp2_with fail
        refine (cB _).mono ?_
        rintro e wq ⟨rfl, rfl⟩
        have ho1 := (ho.lift (bA (b0 wr) (.cells #[.int .i64 t, .int .i64 x] 102)))
        have k4 : m ≤ 4096 := by omega
        have hsw := hb1.size
        have kB : wa.heap.size ≤ ((wr.alloc (.cells #[.int .i64 t, .int .i64 x] 102)).alloc (.cells #[.int .i64 t, .int .i64 x] 102)).heap.size := by simp only [World.size_alloc]; omega
        go_wp2_with (at_builtin; (refine wpList_pushT rfl _ _ rfl wa.heap.size _ m _ 1 t x rfl rfl (ho1.lift (bA (b0 _) _)) (na1 wr _ _ _) k4 kB ?_; intro v1 w5 ho5 hb5 hk5 hs5))
        go_roundw
        case rel => exact ⟨k + 1, m + 1, v1, rfl, by go_num, by omega, by omega, hide HP2.out, ho5, hb5 wa ((bA (bA hb1 _) _))⟩
        case measure => simp [intOf]; omega
    · have hkT : k = T.length := by omega
      have HF : Hid (z = true) := hide (by
        rw [← HZ.out]
        have := hP.out
        rwa [List.take_of_length_le (by rw [HHl.out]; omega)] at this)
      clear hP hkT
      go_wp2
      go_ret2
      exact ⟨_, by rw [HF.out]; rfl, hb⟩

set_option maxRecDepth 100000 in
set_option maxHeartbeats 8000000 in
theorem ref11_Points_line (hs : rsB (tmR l) = true) (w : World) (hR : RR w RA rc l) (hk : ¬ kd = 4) (hL : isB A R N D = true) :
    Calls Tryz.prog 36 #[.agg #[.int .i64 kd, .slice RA l.length rc, .int .i64 A, .int .i64 R, .int .i64 N, .int .i64 D, .slice VA vs.length vc, .int .i64 er]] w (GivesPt ((tmR l).all fun t => bkB (lnQ A R N D (t - (tmR l).getD 0 0))) w) := by
  have cT := fun w hR => ref07_Times RA rc l w hR
  unfold rsB at hs
  simp only [Bool.and_eq_true, decide_eq_true_eq] at hs
  obtain ⟨a1, a2, a3⟩ := hs
  have HBd := hide (rsC_bd (tmR l) (-1) (by decide) a3)
  have HT0 : Hid (∀ i (h : i < (tmR l).length), 0 ≤ (tmR l)[i] - (tmR l).getD 0 0 ∧ (tmR l)[i] - (tmR l).getD 0 0 ≤ 281474976710656) := hide (fun i h => by
    have b0 := HBd.out 0 (by omega)
    have bi := HBd.out i h
    have e0 : (tmR l).getD 0 0 = (tmR l)[0] := by simp [show 0 < (tmR l).length by omega]
    have hle : (tmR l)[0] ≤ (tmR l)[i] := rsC_first (tmR l) (-1) a3 i h (by omega)
    rw [e0]
    omega)
  have d4 : (kd == 4) = false := by simp [hk]
  clear a3
  generalize tmR l = T at *
  generalize hz : (T.all fun t => bkB (lnQ A R N D (t - T.getD 0 0))) = z
  have HZ := hide hz
  clear hz
  go_enter Tryz.func36, Tryz.ntmps36
  go_wp2_with fail
  refine (cT _ (hR.below (bA (b0 _) (.cells #[.int .i64 kd, .slice RA l.length rc, .int .i64 A, .int .i64 R, .int .i64 N, .int .i64 D, .slice VA vs.length vc, .int .i64 er] 27)))).mono ?_
  rintro e wa ⟨B, d, n, rfl, hn, hv, ba⟩
  obtain rfl := hn.out
  have fs := kp ba (na w #[.int .i64 kd, .slice RA l.length rc, .int .i64 A, .int .i64 R, .int .i64 N, .int .i64 D, .slice VA vs.length vc, .int .i64 er] 27)
  have Ba := bB (bA (b0 w) (.cells #[.int .i64 kd, .slice RA l.length rc, .int .i64 A, .int .i64 R, .int .i64 N, .int .i64 D, .slice VA vs.length vc, .int .i64 er] 27)) ba
  have htc := hv.cap
  have htt := hv.top
  have HVT := hide hv
  clear hn hv hR
  obtain ⟨zs_a, zs_b, ls1⟩ := rcell fs
  go_wp2_with fail
  go_loopw [5, 6] (fun vo vi wr => ∃ (k : Nat) (m : Nat) (v0 : Value), v0 = vo ∧ vi = .int .i64 k ∧ k ≤ T.length ∧ m ≤ k ∧ Hid ((T.take k).all (fun t => bkB (lnQ A R N D (t - T.getD 0 0))) = true) ∧ OwnT wa.heap.size wr v0 m ∧ Below wa.heap.size wa wr) (fun _ vi _ => T.length - (intOf vi).toNat)
  case atStart => exact ⟨0, 0, _, rfl, rfl, by omega, by omega, hide rfl, OwnT.nil _ _, b0 wa⟩
  case round =>
    obtain ⟨k, m, v0, rfl, rfl, hk2, hm, hP, ho, hb1⟩ := hrel
    have j1 := kp hb1 fs
    have hb := bB Ba hb1
    by_cases hlt : k < T.length
    · obtain ⟨gt', ot, curt, rfl, hgt, hct⟩ := HVT.out.mem (by omega)
      have hgtr := kp hb1 hgt
      have qt := hct k hlt
      have bt := HBd.out k hlt
      have q0 := hct 0 (by omega)
      have q0' := q0
      rw [Nat.add_zero] at q0'
      have e0 : T.getD 0 0 = T[0] := by simp [show 0 < T.length by omega]
      have b0' := HBd.out 0 (by omega)
      have bd := HT0.out k hlt
      have hst := hide (fun h1 h2 => all_take (p := fun t => bkB (lnQ A R N D (t - T.getD 0 0))) (k := k) hlt h1 h2)
      have hno := hide (fun h2 => all_at (p := fun t => bkB (lnQ A R N D (t - T.getD 0 0))) hlt h2)
      have cA := ref_At A R N D (T[k] - T.getD 0 0) hL (by unfold tmB; exact decide_eq_true bd)
      clear hct
      rw [← e0] at q0 q0' b0'
      generalize T.getD 0 0 = t0 at *
      clear e0
      generalize T[k] = t at *
      have hw : wrap64 (t - t0) = t - t0 := by unfold wrap64; omega
      have hwi : IntKind.i64.wrap (t - t0) = t - t0 := IntWalk.i64_in _ (by omega)
      generalize lnQ A R N D (t - t0) = q at *
      cases hbk : bkB q
      · have HF : Hid (z = false) := hide (HZ.out.symm.trans (hno.out hbk))
        rw [hbk] at cA
        clear hst hno hbk hP
        obtain ⟨zs_a, zs_b, ls2⟩ := rcell j1
        obtain ⟨zt_a, zt_b, lt3⟩ := rcell hgtr
        go_wp2_with fail
        have f_s4 := (ka (j1) (.cells #[.int .i64 t, .int .i64 0] 102))
        have f_t4 := (ka (hgtr) (.cells #[.int .i64 t, .int .i64 0] 102))
        have f_p4 := (na wr #[.int .i64 t, .int .i64 0] 102)
        have hB4 := (bA (b0 wr) (.cells #[.int .i64 t, .int .i64 0] 102))
        clear zs_a zs_b zt_a zt_b
        have ls4 := (rcell f_s4).2.2
        have lt4 := (rcell f_t4).2.2
        have lp4 := (rcell f_p4).2.2
        refine Abs.wp_region_abs (Abs.cls0 _) [0, 1, 2, 3, 4, 5, 6, 7, 8, 9, 10, 11, 12, 13, 14, 15] (by kernel_rfl) (by kernel_rfl) (Below.refl _ _).drew ?_
        repeat (first | (refine Abs.step_pure rfl rfl (fun K hK => ?_); go_simp; (try go_bits); (first | refine hK _ _ ?_ | (simp only [↓IntWalk.iteOmega]; go_simp; (try go_bits); refine hK _ _ ?_)); clear hK K) | (refine Abs.step_load (v := ?_) rfl rfl (by kernel_rfl) rfl (fun w0 hI => ?_) (fun K hK => ?_); rotate_left; (· have z0 := (rcell (kp hI (f_s4))).1; have z1 := (rcell (kp hI (f_t4))).1; go_simp; rfl); (simp only [Act.put, List.setIfInBounds_toArray, List.set_cons_zero, List.set_cons_succ]; refine hK _ _ ?_; clear hK K)) | (refine Abs.step_skip rfl rfl (fun K hK => ?_); (simp only [Act.put, List.setIfInBounds_toArray, List.set_cons_zero, List.set_cons_succ]; refine hK _ _ ?_; clear hK K)))
        (refine Abs.step_call_val (f := ?_) (args := ?_) (v := ?_) rfl rfl rfl rfl (fun w0 => ?_) (fun w0 hI => ?_) (fun K hK => ?_); rotate_left 3; (· go_simp; (constructor <;> rfl)); (· exact cA _); (simp only [Act.put, List.setIfInBounds_toArray, List.set_cons_zero, List.set_cons_succ]; refine hK _ _ ?_; clear hK K))
        repeat (first | (refine Abs.step_pure rfl rfl (fun K hK => ?_); go_simp; (try go_bits); (first | refine hK _ _ ?_ | (simp only [↓IntWalk.iteOmega]; go_simp; (try go_bits); refine hK _ _ ?_)); clear hK K) | (refine Abs.step_load (v := ?_) rfl rfl (by kernel_rfl) rfl (fun w0 hI => ?_) (fun K hK => ?_); rotate_left; (· have z0 := (rcell (kp hI (f_s4))).1; have z1 := (rcell (kp hI (f_t4))).1; go_simp; rfl); (simp only [Act.put, List.setIfInBounds_toArray, List.set_cons_zero, List.set_cons_succ]; refine hK _ _ ?_; clear hK K)) | (refine Abs.step_skip rfl rfl (fun K hK => ?_); (simp only [Act.put, List.setIfInBounds_toArray, List.set_cons_zero, List.set_cons_succ]; refine hK _ _ ?_; clear hK K)))
        intro w5 hb5 hx0 hx1 hx2
        clear hx0 hx1 hx2
        simp only [Abs.T_setF, Abs.T_addA, Abs.T_push, Abs.T_start]
        have f_s5 := kp hb5 (f_s4)
        have f_t5 := kp hb5 (f_t4)
        have f_p5 := kp hb5 (f_p4)
        have hB5 := bB hB4 hb5
        obtain ⟨zs_a, zs_b, ls5⟩ := rcell f_s5
        obtain ⟨zt_a, zt_b, lt5⟩ := rcell f_t5
        obtain ⟨zp_a, zp_b, lp5⟩ := rcell f_p5
        go_wp2
        go_ret2
        exact ⟨_, by rw [HF.out]; rfl, bB hb hB5⟩
      · have HP2 := hide (hst.out hP.out hbk)
        rw [hbk] at cA
        clear hst hno hbk hP
        obtain ⟨zs_a, zs_b, ls6⟩ := rcell j1
        obtain ⟨zt_a, zt_b, lt7⟩ := rcell hgtr
        go_wp2_with fail
        have f_s8 := (ka (j1) (.cells #[.int .i64 t, .int .i64 0] 102))
        have f_t8 := (ka (hgtr) (.cells #[.int .i64 t, .int .i64 0] 102))
        have f_p8 := (na wr #[.int .i64 t, .int .i64 0] 102)
        have hB8 := (bA (b0 wr) (.cells #[.int .i64 t, .int .i64 0] 102))
        clear zs_a zs_b zt_a zt_b
        have ls8 := (rcell f_s8).2.2
        have lt8 := (rcell f_t8).2.2
        have lp8 := (rcell f_p8).2.2
        refine Abs.wp_region_abs (Abs.cls0 _) [0, 1, 2, 3, 4, 5, 6, 7, 8, 9, 10, 11, 12, 13, 14, 15] (by kernel_rfl) (by kernel_rfl) (Below.refl _ _).drew ?_
        repeat (first | (refine Abs.step_pure rfl rfl (fun K hK => ?_); go_simp; (try go_bits); (first | refine hK _ _ ?_ | (simp only [↓IntWalk.iteOmega]; go_simp; (try go_bits); refine hK _ _ ?_)); clear hK K) | (refine Abs.step_load (v := ?_) rfl rfl (by kernel_rfl) rfl (fun w0 hI => ?_) (fun K hK => ?_); rotate_left; (· have z0 := (rcell (kp hI (f_s8))).1; have z1 := (rcell (kp hI (f_t8))).1; go_simp; rfl); (simp only [Act.put, List.setIfInBounds_toArray, List.set_cons_zero, List.set_cons_succ]; refine hK _ _ ?_; clear hK K)) | (refine Abs.step_skip rfl rfl (fun K hK => ?_); (simp only [Act.put, List.setIfInBounds_toArray, List.set_cons_zero, List.set_cons_succ]; refine hK _ _ ?_; clear hK K)))
        (refine Abs.step_call_val (f := ?_) (args := ?_) (v := ?_) rfl rfl rfl rfl (fun w0 => ?_) (fun w0 hI => ?_) (fun K hK => ?_); rotate_left 3; (· go_simp; (constructor <;> rfl)); (· exact cA _); (simp only [Act.put, List.setIfInBounds_toArray, List.set_cons_zero, List.set_cons_succ]; refine hK _ _ ?_; clear hK K))
        repeat (first | (refine Abs.step_pure rfl rfl (fun K hK => ?_); go_simp; (try go_bits); (first | refine hK _ _ ?_ | (simp only [↓IntWalk.iteOmega]; go_simp; (try go_bits); refine hK _ _ ?_)); clear hK K) | (refine Abs.step_load (v := ?_) rfl rfl (by kernel_rfl) rfl (fun w0 hI => ?_) (fun K hK => ?_); rotate_left; (· have z0 := (rcell (kp hI (f_s8))).1; have z1 := (rcell (kp hI (f_t8))).1; go_simp; rfl); (simp only [Act.put, List.setIfInBounds_toArray, List.set_cons_zero, List.set_cons_succ]; refine hK _ _ ?_; clear hK K)) | (refine Abs.step_skip rfl rfl (fun K hK => ?_); (simp only [Act.put, List.setIfInBounds_toArray, List.set_cons_zero, List.set_cons_succ]; refine hK _ _ ?_; clear hK K)))
        intro w9 hb9 hx0 hx1 hx2
        clear hx0 hx1 hx2
        simp only [Abs.T_setF, Abs.T_addA, Abs.T_push, Abs.T_start]
        have f_s9 := kp hb9 (f_s8)
        have f_t9 := kp hb9 (f_t8)
        have f_p9 := kp hb9 (f_p8)
        have hB9 := bB hB8 hb9
        obtain ⟨zs_a, zs_b, ls9⟩ := rcell f_s9
        obtain ⟨zt_a, zt_b, lt9⟩ := rcell f_t9
        obtain ⟨zp_a, zp_b, lp9⟩ := rcell f_p9
        have k4 : m ≤ 4096 := by omega
        have hsw := hb1.size
        go_wp2_with (at_builtin; go_loud (rw [r2_at1 (f_p9)]; generalize hT : setRow _ _ _ = w10; obtain ⟨hx10, f10⟩ := fin_x (b0 _) (f_p9) hT; have b10 : Below wr.heap.size wr w10 := bX hB9 hx10 (Nat.le_refl _); have kB : wa.heap.size ≤ (w10.alloc (.cells #[.int .i64 t, .int .i64 q] 102)).heap.size := (by have := b10.size; simp only [World.size_alloc]; omega); have hz10 : w10.heap.size = w9.heap.size := (by rw [← hT]; exact setRow_size _ _ _); clear hT; (refine wpList_pushT rfl _ _ rfl wa.heap.size _ m _ 1 t q rfl rfl ((ho.lift b10).lift (bA (b0 _) _)) (by rw [← hz10]; exact na w10 _ _) k4 kB ?_; intro v1 w5 ho5 hb5 hk5 hs5)))
        go_roundw
        case rel => exact ⟨k + 1, m + 1, v1, rfl, by go_num, by omega, by omega, hide HP2.out, ho5, hb5 wa (bA (bB hb1 b10) _)⟩
        case measure => simp [intOf]; omega
    · have hkT : k = T.length := by omega
      have HF : Hid (z = true) := hide (by
        rw [← HZ.out]
        have := hP.out
        rwa [List.take_of_length_le (by omega)] at this)
      clear hP hkT
      go_wp2
      go_ret2
      exact ⟨_, by rw [HF.out]; rfl, hb⟩
end
end Go.Proofs.YtmpfbkeamihjbaaGreat

namespace Go.Proofs.YtmpfbkeamihjbaaGreat
open Go.RowKit
attribute [local go_sem] Oper.semAt_some

theorem tmOf_get {r : Rn} {i : Int} (h0 : 0 ≤ i) (h1 : i < r.n) : (tmOf r)[i.toNat]? = some (r.f + r.s * i) := by
  obtain ⟨k, rfl⟩ := Int.eq_ofNat_of_zero_le h0
  unfold tmOf tmK
  have : k < r.n.toNat := by omega
  simp [this, Int.mul_comm]
theorem tmAt_flat {l : List Rn} (h : ∀ r ∈ l, rnIs r = true) : ∀ (m k : Nat) (i : Int), k + m = l.length → 0 ≤ i → i < ((flat (l.drop k)).length : Int) → (flat (l.drop k))[i.toNat]? = some (tmAt l i k m)
  | 0, k, i, hk, h0, h1 => by
    rw [List.drop_eq_nil_of_le (by omega)] at h1
    have : (flat []).length = 0 := rfl
    omega
  | m + 1, k, i, hk, h0, h1 => by
    have hlt : k < l.length := by omega
    have hr := rnIs_spec (h _ (List.getElem_mem hlt))
    have hlen : (tmOf l[k]).length = l[k].n.toNat := tmK_len _ _
    rw [List.drop_eq_getElem_cons hlt, flat] at h1 ⊢
    rw [List.length_append, hlen] at h1
    have hrn := rn_eq hlt
    rw [tmAt, ← hrn]
    split
    · next hi =>
      rw [List.getElem?_append_left (by omega)]
      exact tmOf_get h0 hi
    · next hi =>
      rw [List.getElem?_append_right (by omega), hlen]
      have := tmAt_flat h m (k + 1) (i - l[k].n) (by omega) (by omega) (by omega)
      rwa [show (i - l[k].n).toNat = i.toNat - l[k].n.toNat by omega] at this
theorem rsC_last : ∀ (t : List Int) (lo : Int), rsC lo t = true → ∀ i (h : i < t.length) (h0 : t.length - 1 < t.length), t[i] ≤ t[t.length - 1]
  | [], _, _, _, h, _ => absurd h (Nat.not_lt_zero _)
  | [x], lo, hr, i, h, _ => by
    obtain rfl : i = 0 := by simpa using h
    exact Int.le_refl _
  | x :: y :: r, lo, hr, i, h, h0 => by
    obtain ⟨h1, h2, h3⟩ := rsC_cons.1 hr
    obtain ⟨h4, h5, h6⟩ := rsC_cons.1 h3
    have hl : (x :: y :: r)[(x :: y :: r).length - 1] = (y :: r)[(y :: r).length - 1]'(by simp) := by simp
    rw [hl]
    match i, h with
    | 0, _ =>
      have := rsC_last (y :: r) x h3 0 (by simp) (by simp)
      simp only [List.getElem_cons_zero] at this ⊢
      omega
    | i + 1, h => exact rsC_last (y :: r) x h3 i (by simpa using h) (by simp)

theorem pts_core (T : List Int) (a1 : 1 ≤ T.length) (hbd : ∀ i (h : i < T.length), 0 ≤ T[i] ∧ T[i] ≤ 281474976710656) (hfi : ∀ i (h : i < T.length) (h0 : 0 < T.length), T[0] ≤ T[i]) (hla : ∀ i (h : i < T.length) (h0 : T.length - 1 < T.length), T[i] ≤ T[T.length - 1]) {A R N D : Int} (hL : isB A R N D = true) :
    (T.all fun t => bkB (lnQ A R N D (t - T[0]))) = (enE A R N D 0 (T[T.length - 1] - T[0]) == 0) := by
  have d := isB_spec hL
  have b0 := hbd 0 (by omega)
  have b1 := hbd (T.length - 1) (by omega)
  have f1 := hfi (T.length - 1) (by omega) (by omega)
  have hD : 1 ≤ D := d.2.1.1
  unfold enE
  rw [if_pos hL, if_pos ⟨by unfold tmB; simp, by unfold tmB; simp only [decide_eq_true_eq]; omega, by omega⟩]
  by_cases hb : bkB (lnQ A R N D 0) = true ∧ bkB (lnQ A R N D (T[T.length - 1] - T[0])) = true
  · rw [if_pos hb]
    rw [show ((0 : Int) == 0) = true from rfl, List.all_eq_true]
    intro t ht
    obtain ⟨i, hi, rfl⟩ := List.getElem_of_mem ht
    have g0 := hfi i hi (by omega)
    have g1 := hla i hi (by omega)
    have p0 := of_decide_eq_true hb.1
    have p1 := of_decide_eq_true hb.2
    unfold bkB
    simp only [decide_eq_true_eq]
    rcases Int.le_total 0 N with hN | hN
    · have u0 := lnQ_up (A := A) (R := R) (s := (0 : Int)) hD hN (show (0 : Int) ≤ T[i] - T[0] by omega)
      have u1 := lnQ_up (A := A) (R := R) hD hN (show T[i] - T[0] ≤ T[T.length - 1] - T[0] by omega)
      omega
    · have u0 := lnQ_down (A := A) (R := R) (s := (0 : Int)) hD hN (show (0 : Int) ≤ T[i] - T[0] by omega)
      have u1 := lnQ_down (A := A) (R := R) hD hN (show T[i] - T[0] ≤ T[T.length - 1] - T[0] by omega)
      omega
  · rw [if_neg hb, show ((5 : Int) == 0) = false from rfl, Bool.eq_false_iff]
    intro q
    rw [List.all_eq_true] at q
    refine hb ⟨?_, q _ (List.getElem_mem (by omega))⟩
    have := q _ (List.getElem_mem (show 0 < T.length by omega))
    rwa [Int.sub_self] at this
theorem pts_line {l : List Rn} (h : rnB l = true) {A R N D : Int} (hL : isB A R N D = true) :
    ((tmR l).all fun t => bkB (lnQ A R N D (t - (tmR l).getD 0 0))) = (enE A R N D 0 (sgL l) == 0) := by
  have hC := rnB_C.1 h
  have hm := rnC_mem hC.2.2.1
  have hlen := flat_len hm
  have hri := right_iff l
  rw [h] at hri
  have hrs : rsB (tmR l) = true := by
    cases e : rsB (tmR l)
    · rw [e] at hri; cases hri
    · rfl
  unfold rsB at hrs
  simp only [Bool.and_eq_true, decide_eq_true_eq] at hrs
  obtain ⟨a1, a2, a3⟩ := hrs
  have hbd := rsC_bd (tmR l) (-1) (by decide) a3
  have hfi := rsC_first (tmR l) (-1) a3
  have hla := rsC_last (tmR l) (-1) a3
  have hT := tmR_flat h
  have hsum := rnSum_len l
  have e0 := tmAt_flat hm l.length 0 0 (by omega) (by omega) (by rw [List.drop_zero, ← hT]; omega)
  have e1 := tmAt_flat hm l.length 0 (rnSum l l.length - 1) (by omega) (by rw [hsum, ← hlen, ← hT]; omega) (by rw [List.drop_zero, hsum, ← hlen, ← hT]; omega)
  rw [List.drop_zero, ← hT] at e0 e1
  have hn : (rnSum l l.length - 1).toNat = (tmR l).length - 1 := by rw [hsum, ← hlen, ← hT]; omega
  rw [hn, List.getElem?_eq_getElem (by omega)] at e1
  rw [show (0 : Int).toNat = 0 from rfl, List.getElem?_eq_getElem (by omega)] at e0
  injection e0 with e0
  injection e1 with e1
  have hL0 : (tmR l).getD 0 0 = (tmR l)[0] := by simp [show 0 < (tmR l).length by omega]
  have hsg : sgL l = (tmR l)[(tmR l).length - 1] - (tmR l)[0] := by unfold sgL; rw [← e0, ← e1]
  rw [hL0, hsg]
  exact pts_core (tmR l) a1 hbd hfi hla hL
theorem tmR_len {l : List Rn} (h : rnB l = true) : ((tmR l).length : Int) = rnSum l l.length := by
  rw [tmR_flat h, rnSum_len, flat_len (rnC_mem (rnB_C.1 h).2.2.1)]

/-- a slice of a length -/
def SlN (n : Nat) (v : Value) (w : World) : Prop := ∃ A c, v = .slice A n c ∧ w = w
theorem Cl_SlN (n : Nat) {v : Value} : Abs.Cl (fun _ => False) (SlN n v) := by
  intro w w' ⟨A, c, e, _⟩ h
  exact ⟨A, c, e, rfl⟩
theorem givesV_sl {l : List Int} {w w' : World} {e : Ending} (h : ∃ A' c' n', e = .returned (.slice A' n' c') ∧ Hid (n' = l.length) ∧ VR w' A' c' l ∧ Below w.heap.size w w') : ∃ v, e = .returned v ∧ Below w.heap.size w w' ∧ SlN l.length v w' := by
  obtain ⟨A, c, n, rfl, hn, hv, hb⟩ := h
  exact ⟨_, rfl, hb, A, c, by rw [hn.out], rfl⟩

section
variable (RA VA : Option Addr) (rc vc : Nat) (l : List Rn) (vs : List Int) (kd A R N D er : Int) (w : World) (hR : RR w RA rc l) (hV : VR w VA vc vs)
set_option maxRecDepth 100000 in
set_option maxHeartbeats 4000000 in
include hR hV in
theorem right_a (h : rnB l = false) :
    Calls Tryz.prog 12 #[.agg #[.int .i64 kd, .slice RA l.length rc, .int .i64 A, .int .i64 R, .int .i64 N, .int .i64 D, .slice VA vs.length vc, .int .i64 er]] w fun e w' => e = .returned (.bool false) ∧ Below w.heap.size w w' := by
  have c1 := fun w hR => ref07_Right RA rc l w hR
  rw [h] at c1
  go_enter Tryz.func12, Tryz.ntmps12
  go_wp2_with fail
  refine (c1 _ (hR.below (bA (b0 _) (.cells #[.int .i64 kd, .slice RA l.length rc, .int .i64 A, .int .i64 R, .int .i64 N, .int .i64 D, .slice VA vs.length vc, .int .i64 er] 27)))).mono ?_
  rintro e w1 ⟨rfl, hb1⟩
  have f_s1 := kp hb1 (na w #[.int .i64 kd, .slice RA l.length rc, .int .i64 A, .int .i64 R, .int .i64 N, .int .i64 D, .slice VA vs.length vc, .int .i64 er] 27)
  have rd_l1 := (hR.below (bA (b0 _) (.cells #[.int .i64 kd, .slice RA l.length rc, .int .i64 A, .int .i64 R, .int .i64 N, .int .i64 D, .slice VA vs.length vc, .int .i64 er] 27))).below hb1
  have rd_v1 := (hV.below (bA (b0 _) (.cells #[.int .i64 kd, .slice RA l.length rc, .int .i64 A, .int .i64 R, .int .i64 N, .int .i64 D, .slice VA vs.length vc, .int .i64 er] 27))).below hb1
  have hB1 := bB (bA (b0 w) (.cells #[.int .i64 kd, .slice RA l.length rc, .int .i64 A, .int .i64 R, .int .i64 N, .int .i64 D, .slice VA vs.length vc, .int .i64 er] 27)) hb1
  obtain ⟨zs_a, zs_b, ls1⟩ := rcell f_s1
  go_wp2
  go_ret
  exact ⟨rfl, hB1⟩
set_option maxRecDepth 100000 in
set_option maxHeartbeats 4000000 in
include hR hV in
theorem right_b (h : rnB l = true) (he : er < 0) :
    Calls Tryz.prog 12 #[.agg #[.int .i64 kd, .slice RA l.length rc, .int .i64 A, .int .i64 R, .int .i64 N, .int .i64 D, .slice VA vs.length vc, .int .i64 er]] w fun e w' => e = .returned (.bool false) ∧ Below w.heap.size w w' := by
  have c1 := fun w hR => ref07_Right RA rc l w hR
  rw [h] at c1
  have d1 : decide (er < 0) = true := decide_eq_true he
  go_enter Tryz.func12, Tryz.ntmps12
  go_wp2_with fail
  refine (c1 _ (hR.below (bA (b0 _) (.cells #[.int .i64 kd, .slice RA l.length rc, .int .i64 A, .int .i64 R, .int .i64 N, .int .i64 D, .slice VA vs.length vc, .int .i64 er] 27)))).mono ?_
  rintro e w1 ⟨rfl, hb1⟩
  have f_s1 := kp hb1 (na w #[.int .i64 kd, .slice RA l.length rc, .int .i64 A, .int .i64 R, .int .i64 N, .int .i64 D, .slice VA vs.length vc, .int .i64 er] 27)
  have rd_l1 := (hR.below (bA (b0 _) (.cells #[.int .i64 kd, .slice RA l.length rc, .int .i64 A, .int .i64 R, .int .i64 N, .int .i64 D, .slice VA vs.length vc, .int .i64 er] 27))).below hb1
  have rd_v1 := (hV.below (bA (b0 _) (.cells #[.int .i64 kd, .slice RA l.length rc, .int .i64 A, .int .i64 R, .int .i64 N, .int .i64 D, .slice VA vs.length vc, .int .i64 er] 27))).below hb1
  have hB1 := bB (bA (b0 w) (.cells #[.int .i64 kd, .slice RA l.length rc, .int .i64 A, .int .i64 R, .int .i64 N, .int .i64 D, .slice VA vs.length vc, .int .i64 er] 27)) hb1
  obtain ⟨zs_a, zs_b, ls1⟩ := rcell f_s1
  go_wp2
  go_ret
  exact ⟨rfl, hB1⟩
set_option maxRecDepth 100000 in
set_option maxHeartbeats 4000000 in
include hR hV in
theorem right_c (h : rnB l = true) (he0 : 0 ≤ er) (he : 1099511627776 < er) :
    Calls Tryz.prog 12 #[.agg #[.int .i64 kd, .slice RA l.length rc, .int .i64 A, .int .i64 R, .int .i64 N, .int .i64 D, .slice VA vs.length vc, .int .i64 er]] w fun e w' => e = .returned (.bool false) ∧ Below w.heap.size w w' := by
  have c1 := fun w hR => ref07_Right RA rc l w hR
  rw [h] at c1
  have d1 : decide (er < 0) = false := by simp; omega
  have d2 : decide (1099511627776 < er) = true := by simp; omega
  go_enter Tryz.func12, Tryz.ntmps12
  go_wp2_with fail
  refine (c1 _ (hR.below (bA (b0 _) (.cells #[.int .i64 kd, .slice RA l.length rc, .int .i64 A, .int .i64 R, .int .i64 N, .int .i64 D, .slice VA vs.length vc, .int .i64 er] 27)))).mono ?_
  rintro e w1 ⟨rfl, hb1⟩
  have f_s1 := kp hb1 (na w #[.int .i64 kd, .slice RA l.length rc, .int .i64 A, .int .i64 R, .int .i64 N, .int .i64 D, .slice VA vs.length vc, .int .i64 er] 27)
  have rd_l1 := (hR.below (bA (b0 _) (.cells #[.int .i64 kd, .slice RA l.length rc, .int .i64 A, .int .i64 R, .int .i64 N, .int .i64 D, .slice VA vs.length vc, .int .i64 er] 27))).below hb1
  have rd_v1 := (hV.below (bA (b0 _) (.cells #[.int .i64 kd, .slice RA l.length rc, .int .i64 A, .int .i64 R, .int .i64 N, .int .i64 D, .slice VA vs.length vc, .int .i64 er] 27))).below hb1
  have hB1 := bB (bA (b0 w) (.cells #[.int .i64 kd, .slice RA l.length rc, .int .i64 A, .int .i64 R, .int .i64 N, .int .i64 D, .slice VA vs.length vc, .int .i64 er] 27)) hb1
  obtain ⟨zs_a, zs_b, ls1⟩ := rcell f_s1
  go_wp2
  go_ret
  exact ⟨rfl, hB1⟩
set_option maxRecDepth 100000 in
set_option maxHeartbeats 4000000 in
include hR hV in
theorem right_4a (h : rnB l = true) (he0 : 0 ≤ er) (he : er ≤ 1099511627776) (hz : ¬ A = 0) :
    Calls Tryz.prog 12 #[.agg #[.int .i64 4, .slice RA l.length rc, .int .i64 A, .int .i64 R, .int .i64 N, .int .i64 D, .slice VA vs.length vc, .int .i64 er]] w fun e w' => e = .returned (.bool false) ∧ Below w.heap.size w w' := by
  have c1 := fun w hR => ref07_Right RA rc l w hR
  rw [h] at c1
  have d1 : decide (er < 0) = false := by simp; omega
  have d2 : decide (1099511627776 < er) = false := by simp; omega
  go_enter Tryz.func12, Tryz.ntmps12
  go_wp2_with fail
  refine (c1 _ (hR.below (bA (b0 _) (.cells #[.int .i64 4, .slice RA l.length rc, .int .i64 A, .int .i64 R, .int .i64 N, .int .i64 D, .slice VA vs.length vc, .int .i64 er] 27)))).mono ?_
  rintro e w1 ⟨rfl, hb1⟩
  have f_s1 := kp hb1 (na w #[.int .i64 4, .slice RA l.length rc, .int .i64 A, .int .i64 R, .int .i64 N, .int .i64 D, .slice VA vs.length vc, .int .i64 er] 27)
  have rd_l1 := (hR.below (bA (b0 _) (.cells #[.int .i64 4, .slice RA l.length rc, .int .i64 A, .int .i64 R, .int .i64 N, .int .i64 D, .slice VA vs.length vc, .int .i64 er] 27))).below hb1
  have rd_v1 := (hV.below (bA (b0 _) (.cells #[.int .i64 4, .slice RA l.length rc, .int .i64 A, .int .i64 R, .int .i64 N, .int .i64 D, .slice VA vs.length vc, .int .i64 er] 27))).below hb1
  have hB1 := bB (bA (b0 w) (.cells #[.int .i64 4, .slice RA l.length rc, .int .i64 A, .int .i64 R, .int .i64 N, .int .i64 D, .slice VA vs.length vc, .int .i64 er] 27)) hb1
  obtain ⟨zs_a, zs_b, ls1⟩ := rcell f_s1
  go_wp2_with fail
  refine Abs.wp_region_abs (Abs.cls0 _) [0, 1, 2, 3, 4, 5, 6, 7, 8, 9, 10, 11, 12, 13] (by kernel_rfl) (by kernel_rfl) (Below.refl _ _).drew ?_
  repeat (first | (refine Abs.step_pure rfl rfl (fun K hK => ?_); go_simp; (try go_bits); (first | refine hK _ _ ?_ | (simp only [↓IntWalk.iteOmega]; go_simp; (try go_bits); refine hK _ _ ?_)); clear hK K) | (refine Abs.step_load (v := ?_) rfl rfl (by kernel_rfl) rfl (fun w0 hI => ?_) (fun K hK => ?_); rotate_left; (· have z0 := (rcell (kp hI (f_s1))).1; go_simp; rfl); (simp only [Act.put, List.setIfInBounds_toArray, List.set_cons_zero, List.set_cons_succ]; refine hK _ _ ?_; clear hK K)) | (refine Abs.step_skip rfl rfl (fun K hK => ?_); (simp only [Act.put, List.setIfInBounds_toArray, List.set_cons_zero, List.set_cons_succ]; refine hK _ _ ?_; clear hK K)))
  intro w3 hb3 hx0 hx1 hx2
  clear hx0 hx1 hx2
  simp only [Abs.T_setF, Abs.T_addA, Abs.T_push, Abs.T_start]
  have f_s3 := kp hb3 (f_s1)
  have rd_l3 := rd_l1.below hb3
  have rd_v3 := rd_v1.below hb3
  have hB3 := bB hB1 hb3
  clear zs_a zs_b
  obtain ⟨zs_a, zs_b, ls3⟩ := rcell f_s3
  go_wp2
  go_ret
  exact ⟨rfl, hB3⟩
set_option maxRecDepth 100000 in
set_option maxHeartbeats 4000000 in
include hR hV in
theorem right_4b (h : rnB l = true) (he0 : 0 ≤ er) (he : er ≤ 1099511627776) (hz : ¬ R = 0) :
    Calls Tryz.prog 12 #[.agg #[.int .i64 4, .slice RA l.length rc, .int .i64 0, .int .i64 R, .int .i64 N, .int .i64 D, .slice VA vs.length vc, .int .i64 er]] w fun e w' => e = .returned (.bool false) ∧ Below w.heap.size w w' := by
  have c1 := fun w hR => ref07_Right RA rc l w hR
  rw [h] at c1
  have d1 : decide (er < 0) = false := by simp; omega
  have d2 : decide (1099511627776 < er) = false := by simp; omega
  go_enter Tryz.func12, Tryz.ntmps12
  go_wp2_with fail
  refine (c1 _ (hR.below (bA (b0 _) (.cells #[.int .i64 4, .slice RA l.length rc, .int .i64 0, .int .i64 R, .int .i64 N, .int .i64 D, .slice VA vs.length vc, .int .i64 er] 27)))).mono ?_
  rintro e w1 ⟨rfl, hb1⟩
  have f_s1 := kp hb1 (na w #[.int .i64 4, .slice RA l.length rc, .int .i64 0, .int .i64 R, .int .i64 N, .int .i64 D, .slice VA vs.length vc, .int .i64 er] 27)
  have rd_l1 := (hR.below (bA (b0 _) (.cells #[.int .i64 4, .slice RA l.length rc, .int .i64 0, .int .i64 R, .int .i64 N, .int .i64 D, .slice VA vs.length vc, .int .i64 er] 27))).below hb1
  have rd_v1 := (hV.below (bA (b0 _) (.cells #[.int .i64 4, .slice RA l.length rc, .int .i64 0, .int .i64 R, .int .i64 N, .int .i64 D, .slice VA vs.length vc, .int .i64 er] 27))).below hb1
  have hB1 := bB (bA (b0 w) (.cells #[.int .i64 4, .slice RA l.length rc, .int .i64 0, .int .i64 R, .int .i64 N, .int .i64 D, .slice VA vs.length vc, .int .i64 er] 27)) hb1
  obtain ⟨zs_a, zs_b, ls1⟩ := rcell f_s1
  go_wp2_with fail
  refine Abs.wp_region_abs (Abs.cls0 _) [0, 1, 2, 3, 4, 5, 6, 7, 8, 9, 10, 11, 12, 13] (by kernel_rfl) (by kernel_rfl) (Below.refl _ _).drew ?_
  repeat (first | (refine Abs.step_pure rfl rfl (fun K hK => ?_); go_simp; (try go_bits); (first | refine hK _ _ ?_ | (simp only [↓IntWalk.iteOmega]; go_simp; (try go_bits); refine hK _ _ ?_)); clear hK K) | (refine Abs.step_load (v := ?_) rfl rfl (by kernel_rfl) rfl (fun w0 hI => ?_) (fun K hK => ?_); rotate_left; (· have z0 := (rcell (kp hI (f_s1))).1; go_simp; rfl); (simp only [Act.put, List.setIfInBounds_toArray, List.set_cons_zero, List.set_cons_succ]; refine hK _ _ ?_; clear hK K)) | (refine Abs.step_skip rfl rfl (fun K hK => ?_); (simp only [Act.put, List.setIfInBounds_toArray, List.set_cons_zero, List.set_cons_succ]; refine hK _ _ ?_; clear hK K)))
  intro w3 hb3 hx0 hx1 hx2
  clear hx0 hx1 hx2
  simp only [Abs.T_setF, Abs.T_addA, Abs.T_push, Abs.T_start]
  have f_s3 := kp hb3 (f_s1)
  have rd_l3 := rd_l1.below hb3
  have rd_v3 := rd_v1.below hb3
  have hB3 := bB hB1 hb3
  clear zs_a zs_b
  obtain ⟨zs_a, zs_b, ls3⟩ := rcell f_s3
  go_wp2
  go_ret
  exact ⟨rfl, hB3⟩
set_option maxRecDepth 100000 in
set_option maxHeartbeats 4000000 in
include hR hV in
theorem right_4c (h : rnB l = true) (he0 : 0 ≤ er) (he : er ≤ 1099511627776) (hz : ¬ N = 0) :
    Calls Tryz.prog 12 #[.agg #[.int .i64 4, .slice RA l.length rc, .int .i64 0, .int .i64 0, .int .i64 N, .int .i64 D, .slice VA vs.length vc, .int .i64 er]] w fun e w' => e = .returned (.bool false) ∧ Below w.heap.size w w' := by
  have c1 := fun w hR => ref07_Right RA rc l w hR
  rw [h] at c1
  have d1 : decide (er < 0) = false := by simp; omega
  have d2 : decide (1099511627776 < er) = false := by simp; omega
  go_enter Tryz.func12, Tryz.ntmps12
  go_wp2_with fail
  refine (c1 _ (hR.below (bA (b0 _) (.cells #[.int .i64 4, .slice RA l.length rc, .int .i64 0, .int .i64 0, .int .i64 N, .int .i64 D, .slice VA vs.length vc, .int .i64 er] 27)))).mono ?_
  rintro e w1 ⟨rfl, hb1⟩
  have f_s1 := kp hb1 (na w #[.int .i64 4, .slice RA l.length rc, .int .i64 0, .int .i64 0, .int .i64 N, .int .i64 D, .slice VA vs.length vc, .int .i64 er] 27)
  have rd_l1 := (hR.below (bA (b0 _) (.cells #[.int .i64 4, .slice RA l.length rc, .int .i64 0, .int .i64 0, .int .i64 N, .int .i64 D, .slice VA vs.length vc, .int .i64 er] 27))).below hb1
  have rd_v1 := (hV.below (bA (b0 _) (.cells #[.int .i64 4, .slice RA l.length rc, .int .i64 0, .int .i64 0, .int .i64 N, .int .i64 D, .slice VA vs.length vc, .int .i64 er] 27))).below hb1
  have hB1 := bB (bA (b0 w) (.cells #[.int .i64 4, .slice RA l.length rc, .int .i64 0, .int .i64 0, .int .i64 N, .int .i64 D, .slice VA vs.length vc, .int .i64 er] 27)) hb1
  obtain ⟨zs_a, zs_b, ls1⟩ := rcell f_s1
  go_wp2_with fail
  refine Abs.wp_region_abs (Abs.cls0 _) [0, 1, 2, 3, 4, 5, 6, 7, 8, 9, 10, 11, 12, 13] (by kernel_rfl) (by kernel_rfl) (Below.refl _ _).drew ?_
  repeat (first | (refine Abs.step_pure rfl rfl (fun K hK => ?_); go_simp; (try go_bits); (first | refine hK _ _ ?_ | (simp only [↓IntWalk.iteOmega]; go_simp; (try go_bits); refine hK _ _ ?_)); clear hK K) | (refine Abs.step_load (v := ?_) rfl rfl (by kernel_rfl) rfl (fun w0 hI => ?_) (fun K hK => ?_); rotate_left; (· have z0 := (rcell (kp hI (f_s1))).1; go_simp; rfl); (simp only [Act.put, List.setIfInBounds_toArray, List.set_cons_zero, List.set_cons_succ]; refine hK _ _ ?_; clear hK K)) | (refine Abs.step_skip rfl rfl (fun K hK => ?_); (simp only [Act.put, List.setIfInBounds_toArray, List.set_cons_zero, List.set_cons_succ]; refine hK _ _ ?_; clear hK K)))
  intro w3 hb3 hx0 hx1 hx2
  clear hx0 hx1 hx2
  simp only [Abs.T_setF, Abs.T_addA, Abs.T_push, Abs.T_start]
  have f_s3 := kp hb3 (f_s1)
  have rd_l3 := rd_l1.below hb3
  have rd_v3 := rd_v1.below hb3
  have hB3 := bB hB1 hb3
  clear zs_a zs_b
  obtain ⟨zs_a, zs_b, ls3⟩ := rcell f_s3
  go_wp2
  go_ret
  exact ⟨rfl, hB3⟩
set_option maxRecDepth 100000 in
set_option maxHeartbeats 4000000 in
include hR hV in
theorem right_4d (h : rnB l = true) (he0 : 0 ≤ er) (he : er ≤ 1099511627776) (hz : ¬ D = 0) :
    Calls Tryz.prog 12 #[.agg #[.int .i64 4, .slice RA l.length rc, .int .i64 0, .int .i64 0, .int .i64 0, .int .i64 D, .slice VA vs.length vc, .int .i64 er]] w fun e w' => e = .returned (.bool false) ∧ Below w.heap.size w w' := by
  have c1 := fun w hR => ref07_Right RA rc l w hR
  rw [h] at c1
  have d1 : decide (er < 0) = false := by simp; omega
  have d2 : decide (1099511627776 < er) = false := by simp; omega
  go_enter Tryz.func12, Tryz.ntmps12
  go_wp2_with fail
  refine (c1 _ (hR.below (bA (b0 _) (.cells #[.int .i64 4, .slice RA l.length rc, .int .i64 0, .int .i64 0, .int .i64 0, .int .i64 D, .slice VA vs.length vc, .int .i64 er] 27)))).mono ?_
  rintro e w1 ⟨rfl, hb1⟩
  have f_s1 := kp hb1 (na w #[.int .i64 4, .slice RA l.length rc, .int .i64 0, .int .i64 0, .int .i64 0, .int .i64 D, .slice VA vs.length vc, .int .i64 er] 27)
  have rd_l1 := (hR.below (bA (b0 _) (.cells #[.int .i64 4, .slice RA l.length rc, .int .i64 0, .int .i64 0, .int .i64 0, .int .i64 D, .slice VA vs.length vc, .int .i64 er] 27))).below hb1
  have rd_v1 := (hV.below (bA (b0 _) (.cells #[.int .i64 4, .slice RA l.length rc, .int .i64 0, .int .i64 0, .int .i64 0, .int .i64 D, .slice VA vs.length vc, .int .i64 er] 27))).below hb1
  have hB1 := bB (bA (b0 w) (.cells #[.int .i64 4, .slice RA l.length rc, .int .i64 0, .int .i64 0, .int .i64 0, .int .i64 D, .slice VA vs.length vc, .int .i64 er] 27)) hb1
  obtain ⟨zs_a, zs_b, ls1⟩ := rcell f_s1
  go_wp2_with fail
  refine Abs.wp_region_abs (Abs.cls0 _) [0, 1, 2, 3, 4, 5, 6, 7, 8, 9, 10, 11, 12, 13] (by kernel_rfl) (by kernel_rfl) (Below.refl _ _).drew ?_
  repeat (first | (refine Abs.step_pure rfl rfl (fun K hK => ?_); go_simp; (try go_bits); (first | refine hK _ _ ?_ | (simp only [↓IntWalk.iteOmega]; go_simp; (try go_bits); refine hK _ _ ?_)); clear hK K) | (refine Abs.step_load (v := ?_) rfl rfl (by kernel_rfl) rfl (fun w0 hI => ?_) (fun K hK => ?_); rotate_left; (· have z0 := (rcell (kp hI (f_s1))).1; go_simp; rfl); (simp only [Act.put, List.setIfInBounds_toArray, List.set_cons_zero, List.set_cons_succ]; refine hK _ _ ?_; clear hK K)) | (refine Abs.step_skip rfl rfl (fun K hK => ?_); (simp only [Act.put, List.setIfInBounds_toArray, List.set_cons_zero, List.set_cons_succ]; refine hK _ _ ?_; clear hK K)))
  intro w3 hb3 hx0 hx1 hx2
  clear hx0 hx1 hx2
  simp only [Abs.T_setF, Abs.T_addA, Abs.T_push, Abs.T_start]
  have f_s3 := kp hb3 (f_s1)
  have rd_l3 := rd_l1.below hb3
  have rd_v3 := rd_v1.below hb3
  have hB3 := bB hB1 hb3
  clear zs_a zs_b
  obtain ⟨zs_a, zs_b, ls3⟩ := rcell f_s3
  go_wp2
  go_ret
  exact ⟨rfl, hB3⟩
set_option maxRecDepth 100000 in
set_option maxHeartbeats 4000000 in
include hR hV in
theorem right_4e (h : rnB l = true) (he0 : 0 ≤ er) (he : er ≤ 1099511627776) (hn : ¬ vs.length = (tmR l).length) :
    Calls Tryz.prog 12 #[.agg #[.int .i64 4, .slice RA l.length rc, .int .i64 0, .int .i64 0, .int .i64 0, .int .i64 0, .slice VA vs.length vc, .int .i64 er]] w fun e w' => e = .returned (.bool false) ∧ Below w.heap.size w w' := by
  have c1 := fun w hR => ref07_Right RA rc l w hR
  rw [h] at c1
  have d1 : decide (er < 0) = false := by simp; omega
  have d2 : decide (1099511627776 < er) = false := by simp; omega
  have cT := fun w hR => ref07_Times RA rc l w hR
  have hq : ((vs.length : Int) == ((tmR l).length : Int)) = false := by simp; omega
  go_enter Tryz.func12, Tryz.ntmps12
  go_wp2_with fail
  refine (c1 _ (hR.below (bA (b0 _) (.cells #[.int .i64 4, .slice RA l.length rc, .int .i64 0, .int .i64 0, .int .i64 0, .int .i64 0, .slice VA vs.length vc, .int .i64 er] 27)))).mono ?_
  rintro e w1 ⟨rfl, hb1⟩
  have f_s1 := kp hb1 (na w #[.int .i64 4, .slice RA l.length rc, .int .i64 0, .int .i64 0, .int .i64 0, .int .i64 0, .slice VA vs.length vc, .int .i64 er] 27)
  have rd_l1 := (hR.below (bA (b0 _) (.cells #[.int .i64 4, .slice RA l.length rc, .int .i64 0, .int .i64 0, .int .i64 0, .int .i64 0, .slice VA vs.length vc, .int .i64 er] 27))).below hb1
  have rd_v1 := (hV.below (bA (b0 _) (.cells #[.int .i64 4, .slice RA l.length rc, .int .i64 0, .int .i64 0, .int .i64 0, .int .i64 0, .slice VA vs.length vc, .int .i64 er] 27))).below hb1
  have hB1 := bB (bA (b0 w) (.cells #[.int .i64 4, .slice RA l.length rc, .int .i64 0, .int .i64 0, .int .i64 0, .int .i64 0, .slice VA vs.length vc, .int .i64 er] 27)) hb1
  obtain ⟨zs_a, zs_b, ls1⟩ := rcell f_s1
  go_wp2_with fail
  refine Abs.wp_region_abs (Abs.cls0 _) [0, 1, 2, 3, 4, 5, 6, 7, 8, 9, 10, 11, 12, 13] (by kernel_rfl) (by kernel_rfl) (Below.refl _ _).drew ?_
  repeat (first | (refine Abs.step_pure rfl rfl (fun K hK => ?_); go_simp; (try go_bits); (first | refine hK _ _ ?_ | (simp only [↓IntWalk.iteOmega]; go_simp; (try go_bits); refine hK _ _ ?_)); clear hK K) | (refine Abs.step_load (v := ?_) rfl rfl (by kernel_rfl) rfl (fun w0 hI => ?_) (fun K hK => ?_); rotate_left; (· have z0 := (rcell (kp hI (f_s1))).1; go_simp; rfl); (simp only [Act.put, List.setIfInBounds_toArray, List.set_cons_zero, List.set_cons_succ]; refine hK _ _ ?_; clear hK K)) | (refine Abs.step_skip rfl rfl (fun K hK => ?_); (simp only [Act.put, List.setIfInBounds_toArray, List.set_cons_zero, List.set_cons_succ]; refine hK _ _ ?_; clear hK K)))
  (refine Abs.step_call (f := ?_) (args := ?_) rfl rfl rfl rfl (SlN (tmR l).length) (fun _ => Cl_SlN _) (fun w0 => ?_) (fun w0 hI hF => ?_) (fun K hK v w0 hv => ?_); rotate_left 2; (· go_simp; (constructor <;> rfl)); (· exact (cT w0 (rd_l1.below hI)).mono (fun _ _ h => givesV_sl h)); (obtain ⟨A', d', rfl, -⟩ := hv; clear w0; simp only [Act.put, List.setIfInBounds_toArray, List.set_cons_zero, List.set_cons_succ]; refine hK _ _ ?_; clear hK K))
  repeat (first | (refine Abs.step_pure rfl rfl (fun K hK => ?_); go_simp; (try go_bits); (first | refine hK _ _ ?_ | (simp only [↓IntWalk.iteOmega]; go_simp; (try go_bits); refine hK _ _ ?_)); clear hK K) | (refine Abs.step_load (v := ?_) rfl rfl (by kernel_rfl) rfl (fun w0 hI => ?_) (fun K hK => ?_); rotate_left; (· have z0 := (rcell (kp hI (f_s1))).1; go_simp; rfl); (simp only [Act.put, List.setIfInBounds_toArray, List.set_cons_zero, List.set_cons_succ]; refine hK _ _ ?_; clear hK K)) | (refine Abs.step_skip rfl rfl (fun K hK => ?_); (simp only [Act.put, List.setIfInBounds_toArray, List.set_cons_zero, List.set_cons_succ]; refine hK _ _ ?_; clear hK K)))
  intro w3 hb3 hx0 hx1 hx2
  clear hx0 hx1 hx2
  simp only [Abs.T_setF, Abs.T_addA, Abs.T_push, Abs.T_start]
  have f_s3 := kp hb3 (f_s1)
  have rd_l3 := rd_l1.below hb3
  have rd_v3 := rd_v1.below hb3
  have hB3 := bB hB1 hb3
  clear zs_a zs_b
  obtain ⟨zs_a, zs_b, ls3⟩ := rcell f_s3
  go_wp2
  go_ret
  exact ⟨rfl, hB3⟩
set_option maxRecDepth 100000 in
set_option maxHeartbeats 4000000 in
include hR hV in
theorem right_4f (h : rnB l = true) (he0 : 0 ≤ er) (he : er ≤ 1099511627776) (hn : vs.length = (tmR l).length) :
    Calls Tryz.prog 12 #[.agg #[.int .i64 4, .slice RA l.length rc, .int .i64 0, .int .i64 0, .int .i64 0, .int .i64 0, .slice VA vs.length vc, .int .i64 er]] w fun e w' => e = .returned (.bool (vs.all bkV)) ∧ Below w.heap.size w w' := by
  have c1 := fun w hR => ref07_Right RA rc l w hR
  rw [h] at c1
  have d1 : decide (er < 0) = false := by simp; omega
  have d2 : decide (1099511627776 < er) = false := by simp; omega
  have cT := fun w hR => ref07_Times RA rc l w hR
  have hri := right_iff l
  rw [h] at hri
  have hrs : rsB (tmR l) = true := by
    cases e : rsB (tmR l)
    · rw [e] at hri; cases hri
    · rfl
  have cP := fun w hR hV => ref11_Points_raw RA VA rc vc l vs 0 0 0 0 er hrs w hR hn hV
  have hq : ((vs.length : Int) == ((tmR l).length : Int)) = true := by simp; omega
  have HN := hide hn
  clear hn hri hrs
  generalize vs.all bkV = z at *
  go_enter Tryz.func12, Tryz.ntmps12
  go_wp2_with fail
  refine (c1 _ (hR.below (bA (b0 _) (.cells #[.int .i64 4, .slice RA l.length rc, .int .i64 0, .int .i64 0, .int .i64 0, .int .i64 0, .slice VA vs.length vc, .int .i64 er] 27)))).mono ?_
  rintro e w1 ⟨rfl, hb1⟩
  have f_s1 := kp hb1 (na w #[.int .i64 4, .slice RA l.length rc, .int .i64 0, .int .i64 0, .int .i64 0, .int .i64 0, .slice VA vs.length vc, .int .i64 er] 27)
  have rd_l1 := (hR.below (bA (b0 _) (.cells #[.int .i64 4, .slice RA l.length rc, .int .i64 0, .int .i64 0, .int .i64 0, .int .i64 0, .slice VA vs.length vc, .int .i64 er] 27))).below hb1
  have rd_v1 := (hV.below (bA (b0 _) (.cells #[.int .i64 4, .slice RA l.length rc, .int .i64 0, .int .i64 0, .int .i64 0, .int .i64 0, .slice VA vs.length vc, .int .i64 er] 27))).below hb1
  have hB1 := bB (bA (b0 w) (.cells #[.int .i64 4, .slice RA l.length rc, .int .i64 0, .int .i64 0, .int .i64 0, .int .i64 0, .slice VA vs.length vc, .int .i64 er] 27)) hb1
  obtain ⟨zs_a, zs_b, ls1⟩ := rcell f_s1
  go_wp2_with fail
  refine Abs.wp_region_abs (Abs.cls0 _) [0, 1, 2, 3, 4, 5, 6, 7, 8, 9, 10, 11, 12, 13] (by kernel_rfl) (by kernel_rfl) (Below.refl _ _).drew ?_
  repeat (first | (refine Abs.step_pure rfl rfl (fun K hK => ?_); go_simp; (try go_bits); (first | refine hK _ _ ?_ | (simp only [↓IntWalk.iteOmega]; go_simp; (try go_bits); refine hK _ _ ?_)); clear hK K) | (refine Abs.step_load (v := ?_) rfl rfl (by kernel_rfl) rfl (fun w0 hI => ?_) (fun K hK => ?_); rotate_left; (· have z0 := (rcell (kp hI (f_s1))).1; go_simp; rfl); (simp only [Act.put, List.setIfInBounds_toArray, List.set_cons_zero, List.set_cons_succ]; refine hK _ _ ?_; clear hK K)) | (refine Abs.step_skip rfl rfl (fun K hK => ?_); (simp only [Act.put, List.setIfInBounds_toArray, List.set_cons_zero, List.set_cons_succ]; refine hK _ _ ?_; clear hK K)))
  (refine Abs.step_call (f := ?_) (args := ?_) rfl rfl rfl rfl (SlN (tmR l).length) (fun _ => Cl_SlN _) (fun w0 => ?_) (fun w0 hI hF => ?_) (fun K hK v w0 hv => ?_); rotate_left 2; (· go_simp; (constructor <;> rfl)); (· exact (cT w0 (rd_l1.below hI)).mono (fun _ _ h => givesV_sl h)); (obtain ⟨A', d', rfl, -⟩ := hv; clear w0; simp only [Act.put, List.setIfInBounds_toArray, List.set_cons_zero, List.set_cons_succ]; refine hK _ _ ?_; clear hK K))
  repeat (first | (refine Abs.step_pure rfl rfl (fun K hK => ?_); go_simp; (try go_bits); (first | refine hK _ _ ?_ | (simp only [↓IntWalk.iteOmega]; go_simp; (try go_bits); refine hK _ _ ?_)); clear hK K) | (refine Abs.step_load (v := ?_) rfl rfl (by kernel_rfl) rfl (fun w0 hI => ?_) (fun K hK => ?_); rotate_left; (· have z0 := (rcell (kp hI (f_s1))).1; go_simp; rfl); (simp only [Act.put, List.setIfInBounds_toArray, List.set_cons_zero, List.set_cons_succ]; refine hK _ _ ?_; clear hK K)) | (refine Abs.step_skip rfl rfl (fun K hK => ?_); (simp only [Act.put, List.setIfInBounds_toArray, List.set_cons_zero, List.set_cons_succ]; refine hK _ _ ?_; clear hK K)))
  intro w3 hb3 hx0 hx1 hx2
  clear hx0 hx1 hx2
  simp only [Abs.T_setF, Abs.T_addA, Abs.T_push, Abs.T_start]
  have f_s3 := kp hb3 (f_s1)
  have rd_l3 := rd_l1.below hb3
  have rd_v3 := rd_v1.below hb3
  have hB3 := bB hB1 hb3
  clear zs_a zs_b
  obtain ⟨zs_a, zs_b, ls3⟩ := rcell f_s3
  go_wp2_with fail
  refine (cP _ rd_l3 rd_v3).mono ?_
  rintro e w9 ⟨v9, rfl, hb9⟩
  go_wp2
  go_ret
  exact ⟨rfl, bB hB3 hb9⟩
set_option maxRecDepth 100000 in
set_option maxHeartbeats 4000000 in
include hR hV in
theorem right_l1 (h : rnB l = true) (he0 : 0 ≤ er) (he : er ≤ 1099511627776) (hk : ¬ kd = 4) (hl : 0 < vs.length) :
    Calls Tryz.prog 12 #[.agg #[.int .i64 kd, .slice RA l.length rc, .int .i64 A, .int .i64 R, .int .i64 N, .int .i64 D, .slice VA vs.length vc, .int .i64 er]] w fun e w' => e = .returned (.bool false) ∧ Below w.heap.size w w' := by
  have c1 := fun w hR => ref07_Right RA rc l w hR
  rw [h] at c1
  have d1 : decide (er < 0) = false := by simp; omega
  have d2 : decide (1099511627776 < er) = false := by simp; omega
  have dk : (kd == 4) = false := by simp [hk]
  have d3 : decide (0 < (vs.length : Int)) = true := by simp; omega
  go_enter Tryz.func12, Tryz.ntmps12
  go_wp2_with fail
  refine (c1 _ (hR.below (bA (b0 _) (.cells #[.int .i64 kd, .slice RA l.length rc, .int .i64 A, .int .i64 R, .int .i64 N, .int .i64 D, .slice VA vs.length vc, .int .i64 er] 27)))).mono ?_
  rintro e w1 ⟨rfl, hb1⟩
  have f_s1 := kp hb1 (na w #[.int .i64 kd, .slice RA l.length rc, .int .i64 A, .int .i64 R, .int .i64 N, .int .i64 D, .slice VA vs.length vc, .int .i64 er] 27)
  have rd_l1 := (hR.below (bA (b0 _) (.cells #[.int .i64 kd, .slice RA l.length rc, .int .i64 A, .int .i64 R, .int .i64 N, .int .i64 D, .slice VA vs.length vc, .int .i64 er] 27))).below hb1
  have rd_v1 := (hV.below (bA (b0 _) (.cells #[.int .i64 kd, .slice RA l.length rc, .int .i64 A, .int .i64 R, .int .i64 N, .int .i64 D, .slice VA vs.length vc, .int .i64 er] 27))).below hb1
  have hB1 := bB (bA (b0 w) (.cells #[.int .i64 kd, .slice RA l.length rc, .int .i64 A, .int .i64 R, .int .i64 N, .int .i64 D, .slice VA vs.length vc, .int .i64 er] 27)) hb1
  obtain ⟨zs_a, zs_b, ls1⟩ := rcell f_s1
  go_wp2_with fail
  refine Abs.wp_region_abs (Abs.cls0 _) [0, 1, 2, 3, 4, 5, 6, 7, 8, 9, 10, 11, 12, 13, 14, 15, 16, 17] (by kernel_rfl) (by kernel_rfl) (Below.refl _ _).drew ?_
  repeat (first | (refine Abs.step_pure rfl rfl (fun K hK => ?_); go_simp; (try go_bits); (first | refine hK _ _ ?_ | (simp only [↓IntWalk.iteOmega]; go_simp; (try go_bits); refine hK _ _ ?_)); clear hK K) | (refine Abs.step_load (v := ?_) rfl rfl (by kernel_rfl) rfl (fun w0 hI => ?_) (fun K hK => ?_); rotate_left; (· have z0 := (rcell (kp hI (f_s1))).1; go_simp; rfl); (simp only [Act.put, List.setIfInBounds_toArray, List.set_cons_zero, List.set_cons_succ]; refine hK _ _ ?_; clear hK K)) | (refine Abs.step_skip rfl rfl (fun K hK => ?_); (simp only [Act.put, List.setIfInBounds_toArray, List.set_cons_zero, List.set_cons_succ]; refine hK _ _ ?_; clear hK K)))
  intro w3 hb3 hx0 hx1 hx2
  clear hx0 hx1 hx2
  simp only [Abs.T_setF, Abs.T_addA, Abs.T_push, Abs.T_start]
  have f_s3 := kp hb3 (f_s1)
  have rd_l3 := rd_l1.below hb3
  have rd_v3 := rd_v1.below hb3
  have hB3 := bB hB1 hb3
  clear zs_a zs_b
  obtain ⟨zs_a, zs_b, ls3⟩ := rcell f_s3
  go_wp2
  go_ret
  exact ⟨rfl, hB3⟩
set_option maxRecDepth 100000 in
set_option maxHeartbeats 4000000 in
include hR hV in
theorem right_l2 (h : rnB l = true) (he0 : 0 ≤ er) (he : er ≤ 1099511627776) (hk : ¬ kd = 4) (hl : vs.length = 0) (hL : isB A R N D = false) :
    Calls Tryz.prog 12 #[.agg #[.int .i64 kd, .slice RA l.length rc, .int .i64 A, .int .i64 R, .int .i64 N, .int .i64 D, .slice VA vs.length vc, .int .i64 er]] w fun e w' => e = .returned (.bool false) ∧ Below w.heap.size w w' := by
  have c1 := fun w hR => ref07_Right RA rc l w hR
  rw [h] at c1
  have d1 : decide (er < 0) = false := by simp; omega
  have d2 : decide (1099511627776 < er) = false := by simp; omega
  have dk : (kd == 4) = false := by simp [hk]
  have d3 : decide (0 < (vs.length : Int)) = false := decide_eq_false (by omega)
  have d3n : decide (0 < vs.length) = false := decide_eq_false (by omega)
  have d3p : ¬ 0 < vs.length := by omega
  clear hl
  have cL := ref_Right A R N D
  rw [hL] at cL
  go_enter Tryz.func12, Tryz.ntmps12
  go_wp2_with fail
  refine (c1 _ (hR.below (bA (b0 _) (.cells #[.int .i64 kd, .slice RA l.length rc, .int .i64 A, .int .i64 R, .int .i64 N, .int .i64 D, .slice VA vs.length vc, .int .i64 er] 27)))).mono ?_
  rintro e w1 ⟨rfl, hb1⟩
  have f_s1 := kp hb1 (na w #[.int .i64 kd, .slice RA l.length rc, .int .i64 A, .int .i64 R, .int .i64 N, .int .i64 D, .slice VA vs.length vc, .int .i64 er] 27)
  have rd_l1 := (hR.below (bA (b0 _) (.cells #[.int .i64 kd, .slice RA l.length rc, .int .i64 A, .int .i64 R, .int .i64 N, .int .i64 D, .slice VA vs.length vc, .int .i64 er] 27))).below hb1
  have rd_v1 := (hV.below (bA (b0 _) (.cells #[.int .i64 kd, .slice RA l.length rc, .int .i64 A, .int .i64 R, .int .i64 N, .int .i64 D, .slice VA vs.length vc, .int .i64 er] 27))).below hb1
  have hB1 := bB (bA (b0 w) (.cells #[.int .i64 kd, .slice RA l.length rc, .int .i64 A, .int .i64 R, .int .i64 N, .int .i64 D, .slice VA vs.length vc, .int .i64 er] 27)) hb1
  obtain ⟨zs_a, zs_b, ls1⟩ := rcell f_s1
  go_wp2_with fail
  refine Abs.wp_region_abs (Abs.cls0 _) [0, 1, 2, 3, 4, 5, 6, 7, 8, 9, 10, 11, 12, 13, 14, 15, 16, 17] (by kernel_rfl) (by kernel_rfl) (Below.refl _ _).drew ?_
  repeat (first | (refine Abs.step_pure rfl rfl (fun K hK => ?_); go_simp; (try go_bits); (first | refine hK _ _ ?_ | (simp only [↓IntWalk.iteOmega]; go_simp; (try go_bits); refine hK _ _ ?_)); clear hK K) | (refine Abs.step_load (v := ?_) rfl rfl (by kernel_rfl) rfl (fun w0 hI => ?_) (fun K hK => ?_); rotate_left; (· have z0 := (rcell (kp hI (f_s1))).1; go_simp; rfl); (simp only [Act.put, List.setIfInBounds_toArray, List.set_cons_zero, List.set_cons_succ]; refine hK _ _ ?_; clear hK K)) | (refine Abs.step_skip rfl rfl (fun K hK => ?_); (simp only [Act.put, List.setIfInBounds_toArray, List.set_cons_zero, List.set_cons_succ]; refine hK _ _ ?_; clear hK K)))
  (refine Abs.step_call_val (f := ?_) (args := ?_) (v := ?_) rfl rfl rfl rfl (fun w0 => ?_) (fun w0 hI => ?_) (fun K hK => ?_); rotate_left 3; (· go_simp; (constructor <;> rfl)); (· exact cL _); (simp only [Act.put, List.setIfInBounds_toArray, List.set_cons_zero, List.set_cons_succ]; refine hK _ _ ?_; clear hK K))
  repeat (first | (refine Abs.step_pure rfl rfl (fun K hK => ?_); go_simp; (try go_bits); (first | refine hK _ _ ?_ | (simp only [↓IntWalk.iteOmega]; go_simp; (try go_bits); refine hK _ _ ?_)); clear hK K) | (refine Abs.step_load (v := ?_) rfl rfl (by kernel_rfl) rfl (fun w0 hI => ?_) (fun K hK => ?_); rotate_left; (· have z0 := (rcell (kp hI (f_s1))).1; go_simp; rfl); (simp only [Act.put, List.setIfInBounds_toArray, List.set_cons_zero, List.set_cons_succ]; refine hK _ _ ?_; clear hK K)) | (refine Abs.step_skip rfl rfl (fun K hK => ?_); (simp only [Act.put, List.setIfInBounds_toArray, List.set_cons_zero, List.set_cons_succ]; refine hK _ _ ?_; clear hK K)))
  intro w3 hb3 hx0 hx1 hx2
  clear hx0 hx1 hx2
  simp only [Abs.T_setF, Abs.T_addA, Abs.T_push, Abs.T_start]
  have f_s3 := kp hb3 (f_s1)
  have rd_l3 := rd_l1.below hb3
  have rd_v3 := rd_v1.below hb3
  have hB3 := bB hB1 hb3
  clear zs_a zs_b
  obtain ⟨zs_a, zs_b, ls3⟩ := rcell f_s3
  go_wp2
  go_ret
  exact ⟨rfl, hB3⟩
set_option maxRecDepth 100000 in
set_option maxHeartbeats 4000000 in
include hR hV in
theorem right_l3 (h : rnB l = true) (he0 : 0 ≤ er) (he : er ≤ 1099511627776) (hk : ¬ kd = 4) (hl : vs.length = 0) (hL : isB A R N D = true) (hkk : ¬ kd = (if N = 0 then 1 else if R = 0 then 2 else 3)) :
    Calls Tryz.prog 12 #[.agg #[.int .i64 kd, .slice RA l.length rc, .int .i64 A, .int .i64 R, .int .i64 N, .int .i64 D, .slice VA vs.length vc, .int .i64 er]] w fun e w' => e = .returned (.bool false) ∧ Below w.heap.size w w' := by
  have c1 := fun w hR => ref07_Right RA rc l w hR
  rw [h] at c1
  have d1 : decide (er < 0) = false := by simp; omega
  have d2 : decide (1099511627776 < er) = false := by simp; omega
  have dk : (kd == 4) = false := by simp [hk]
  have d3 : decide (0 < (vs.length : Int)) = false := decide_eq_false (by omega)
  have d3n : decide (0 < vs.length) = false := decide_eq_false (by omega)
  have d3p : ¬ 0 < vs.length := by omega
  clear hl
  have cL := ref_Right A R N D
  rw [hL] at cL
  have cK := ref11_Kind A R N D
  generalize (if N = 0 then (1 : Int) else if R = 0 then 2 else 3) = kk at *
  have dkk : (kd == kk) = false := by simp [hkk]
  go_enter Tryz.func12, Tryz.ntmps12
  go_wp2_with fail
  refine (c1 _ (hR.below (bA (b0 _) (.cells #[.int .i64 kd, .slice RA l.length rc, .int .i64 A, .int .i64 R, .int .i64 N, .int .i64 D, .slice VA vs.length vc, .int .i64 er] 27)))).mono ?_
  rintro e w1 ⟨rfl, hb1⟩
  have f_s1 := kp hb1 (na w #[.int .i64 kd, .slice RA l.length rc, .int .i64 A, .int .i64 R, .int .i64 N, .int .i64 D, .slice VA vs.length vc, .int .i64 er] 27)
  have rd_l1 := (hR.below (bA (b0 _) (.cells #[.int .i64 kd, .slice RA l.length rc, .int .i64 A, .int .i64 R, .int .i64 N, .int .i64 D, .slice VA vs.length vc, .int .i64 er] 27))).below hb1
  have rd_v1 := (hV.below (bA (b0 _) (.cells #[.int .i64 kd, .slice RA l.length rc, .int .i64 A, .int .i64 R, .int .i64 N, .int .i64 D, .slice VA vs.length vc, .int .i64 er] 27))).below hb1
  have hB1 := bB (bA (b0 w) (.cells #[.int .i64 kd, .slice RA l.length rc, .int .i64 A, .int .i64 R, .int .i64 N, .int .i64 D, .slice VA vs.length vc, .int .i64 er] 27)) hb1
  obtain ⟨zs_a, zs_b, ls1⟩ := rcell f_s1
  go_wp2_with fail
  refine Abs.wp_region_abs (Abs.cls0 _) [0, 1, 2, 3, 4, 5, 6, 7, 8, 9, 10, 11, 12, 13, 14, 15, 16, 17] (by kernel_rfl) (by kernel_rfl) (Below.refl _ _).drew ?_
  repeat (first | (refine Abs.step_pure rfl rfl (fun K hK => ?_); go_simp; (try go_bits); (first | refine hK _ _ ?_ | (simp only [↓IntWalk.iteOmega]; go_simp; (try go_bits); refine hK _ _ ?_)); clear hK K) | (refine Abs.step_load (v := ?_) rfl rfl (by kernel_rfl) rfl (fun w0 hI => ?_) (fun K hK => ?_); rotate_left; (· have z0 := (rcell (kp hI (f_s1))).1; go_simp; rfl); (simp only [Act.put, List.setIfInBounds_toArray, List.set_cons_zero, List.set_cons_succ]; refine hK _ _ ?_; clear hK K)) | (refine Abs.step_skip rfl rfl (fun K hK => ?_); (simp only [Act.put, List.setIfInBounds_toArray, List.set_cons_zero, List.set_cons_succ]; refine hK _ _ ?_; clear hK K)))
  (refine Abs.step_call_val (f := ?_) (args := ?_) (v := ?_) rfl rfl rfl rfl (fun w0 => ?_) (fun w0 hI => ?_) (fun K hK => ?_); rotate_left 3; (· go_simp; (constructor <;> rfl)); (· exact cL _); (simp only [Act.put, List.setIfInBounds_toArray, List.set_cons_zero, List.set_cons_succ]; refine hK _ _ ?_; clear hK K))
  repeat (first | (refine Abs.step_pure rfl rfl (fun K hK => ?_); go_simp; (try go_bits); (first | refine hK _ _ ?_ | (simp only [↓IntWalk.iteOmega]; go_simp; (try go_bits); refine hK _ _ ?_)); clear hK K) | (refine Abs.step_load (v := ?_) rfl rfl (by kernel_rfl) rfl (fun w0 hI => ?_) (fun K hK => ?_); rotate_left; (· have z0 := (rcell (kp hI (f_s1))).1; go_simp; rfl); (simp only [Act.put, List.setIfInBounds_toArray, List.set_cons_zero, List.set_cons_succ]; refine hK _ _ ?_; clear hK K)) | (refine Abs.step_skip rfl rfl (fun K hK => ?_); (simp only [Act.put, List.setIfInBounds_toArray, List.set_cons_zero, List.set_cons_succ]; refine hK _ _ ?_; clear hK K)))
  (refine Abs.step_call_val (f := ?_) (args := ?_) (v := ?_) rfl rfl rfl rfl (fun w0 => ?_) (fun w0 hI => ?_) (fun K hK => ?_); rotate_left 3; (· go_simp; (constructor <;> rfl)); (· exact cK _); (simp only [Act.put, List.setIfInBounds_toArray, List.set_cons_zero, List.set_cons_succ]; refine hK _ _ ?_; clear hK K))
  repeat (first | (refine Abs.step_pure rfl rfl (fun K hK => ?_); go_simp; (try go_bits); (first | refine hK _ _ ?_ | (simp only [↓IntWalk.iteOmega]; go_simp; (try go_bits); refine hK _ _ ?_)); clear hK K) | (refine Abs.step_load (v := ?_) rfl rfl (by kernel_rfl) rfl (fun w0 hI => ?_) (fun K hK => ?_); rotate_left; (· have z0 := (rcell (kp hI (f_s1))).1; go_simp; rfl); (simp only [Act.put, List.setIfInBounds_toArray, List.set_cons_zero, List.set_cons_succ]; refine hK _ _ ?_; clear hK K)) | (refine Abs.step_skip rfl rfl (fun K hK => ?_); (simp only [Act.put, List.setIfInBounds_toArray, List.set_cons_zero, List.set_cons_succ]; refine hK _ _ ?_; clear hK K)))
  intro w3 hb3 hx0 hx1 hx2
  clear hx0 hx1 hx2
  simp only [Abs.T_setF, Abs.T_addA, Abs.T_push, Abs.T_start]
  have f_s3 := kp hb3 (f_s1)
  have rd_l3 := rd_l1.below hb3
  have rd_v3 := rd_v1.below hb3
  have hB3 := bB hB1 hb3
  clear zs_a zs_b
  obtain ⟨zs_a, zs_b, ls3⟩ := rcell f_s3
  go_wp2
  go_ret
  exact ⟨rfl, hB3⟩
set_option maxRecDepth 100000 in
set_option maxHeartbeats 4000000 in
include hR hV in
theorem right_l4 (h : rnB l = true) (he0 : 0 ≤ er) (he : er ≤ 1099511627776) (hk : ¬ kd = 4) (hl : vs.length = 0) (hL : isB A R N D = true) (hkk : kd = (if N = 0 then 1 else if R = 0 then 2 else 3)) :
    Calls Tryz.prog 12 #[.agg #[.int .i64 kd, .slice RA l.length rc, .int .i64 A, .int .i64 R, .int .i64 N, .int .i64 D, .slice VA vs.length vc, .int .i64 er]] w fun e w' => e = .returned (.bool (enE A R N D 0 (sgL l) == 0)) ∧ Below w.heap.size w w' := by
  have hri := right_iff l
  rw [h] at hri
  have hrs : rsB (tmR l) = true := by
    cases e : rsB (tmR l)
    · rw [e] at hri; cases hri
    · rfl
  have hpt := pts_line h hL
  have cP := fun w hR => ref11_Points_line RA VA rc vc l vs kd A R N D er hrs w hR hk hL
  rw [hpt] at cP
  generalize (enE A R N D 0 (sgL l) == 0) = z at *
  clear hpt hri hrs
  have c1 := fun w hR => ref07_Right RA rc l w hR
  rw [h] at c1
  have d1 : decide (er < 0) = false := by simp; omega
  have d2 : decide (1099511627776 < er) = false := by simp; omega
  have dk : (kd == 4) = false := by simp [hk]
  have d3 : decide (0 < (vs.length : Int)) = false := decide_eq_false (by omega)
  have d3n : decide (0 < vs.length) = false := decide_eq_false (by omega)
  have d3p : ¬ 0 < vs.length := by omega
  clear hl
  have cL := ref_Right A R N D
  rw [hL] at cL
  have cK := ref11_Kind A R N D
  generalize (if N = 0 then (1 : Int) else if R = 0 then 2 else 3) = kk at *
  have dkk : (kd == kk) = true := by simp [hkk]
  have HKK := hide hkk
  clear hkk
  go_enter Tryz.func12, Tryz.ntmps12
  go_wp2_with fail
  refine (c1 _ (hR.below (bA (b0 _) (.cells #[.int .i64 kd, .slice RA l.length rc, .int .i64 A, .int .i64 R, .int .i64 N, .int .i64 D, .slice VA vs.length vc, .int .i64 er] 27)))).mono ?_
  rintro e w1 ⟨rfl, hb1⟩
  have f_s1 := kp hb1 (na w #[.int .i64 kd, .slice RA l.length rc, .int .i64 A, .int .i64 R, .int .i64 N, .int .i64 D, .slice VA vs.length vc, .int .i64 er] 27)
  have rd_l1 := (hR.below (bA (b0 _) (.cells #[.int .i64 kd, .slice RA l.length rc, .int .i64 A, .int .i64 R, .int .i64 N, .int .i64 D, .slice VA vs.length vc, .int .i64 er] 27))).below hb1
  have rd_v1 := (hV.below (bA (b0 _) (.cells #[.int .i64 kd, .slice RA l.length rc, .int .i64 A, .int .i64 R, .int .i64 N, .int .i64 D, .slice VA vs.length vc, .int .i64 er] 27))).below hb1
  have hB1 := bB (bA (b0 w) (.cells #[.int .i64 kd, .slice RA l.length rc, .int .i64 A, .int .i64 R, .int .i64 N, .int .i64 D, .slice VA vs.length vc, .int .i64 er] 27)) hb1
  obtain ⟨zs_a, zs_b, ls1⟩ := rcell f_s1
  go_wp2_with fail
  refine Abs.wp_region_abs (Abs.cls0 _) [0, 1, 2, 3, 4, 5, 6, 7, 8, 9, 10, 11, 12, 13, 14, 15, 16, 17] (by kernel_rfl) (by kernel_rfl) (Below.refl _ _).drew ?_
  repeat (first | (refine Abs.step_pure rfl rfl (fun K hK => ?_); go_simp; (try go_bits); (first | refine hK _ _ ?_ | (simp only [↓IntWalk.iteOmega]; go_simp; (try go_bits); refine hK _ _ ?_)); clear hK K) | (refine Abs.step_load (v := ?_) rfl rfl (by kernel_rfl) rfl (fun w0 hI => ?_) (fun K hK => ?_); rotate_left; (· have z0 := (rcell (kp hI (f_s1))).1; go_simp; rfl); (simp only [Act.put, List.setIfInBounds_toArray, List.set_cons_zero, List.set_cons_succ]; refine hK _ _ ?_; clear hK K)) | (refine Abs.step_skip rfl rfl (fun K hK => ?_); (simp only [Act.put, List.setIfInBounds_toArray, List.set_cons_zero, List.set_cons_succ]; refine hK _ _ ?_; clear hK K)))
  (refine Abs.step_call_val (f := ?_) (args := ?_) (v := ?_) rfl rfl rfl rfl (fun w0 => ?_) (fun w0 hI => ?_) (fun K hK => ?_); rotate_left 3; (· go_simp; (constructor <;> rfl)); (· exact cL _); (simp only [Act.put, List.setIfInBounds_toArray, List.set_cons_zero, List.set_cons_succ]; refine hK _ _ ?_; clear hK K))
  repeat (first | (refine Abs.step_pure rfl rfl (fun K hK => ?_); go_simp; (try go_bits); (first | refine hK _ _ ?_ | (simp only [↓IntWalk.iteOmega]; go_simp; (try go_bits); refine hK _ _ ?_)); clear hK K) | (refine Abs.step_load (v := ?_) rfl rfl (by kernel_rfl) rfl (fun w0 hI => ?_) (fun K hK => ?_); rotate_left; (· have z0 := (rcell (kp hI (f_s1))).1; go_simp; rfl); (simp only [Act.put, List.setIfInBounds_toArray, List.set_cons_zero, List.set_cons_succ]; refine hK _ _ ?_; clear hK K)) | (refine Abs.step_skip rfl rfl (fun K hK => ?_); (simp only [Act.put, List.setIfInBounds_toArray, List.set_cons_zero, List.set_cons_succ]; refine hK _ _ ?_; clear hK K)))
  (refine Abs.step_call_val (f := ?_) (args := ?_) (v := ?_) rfl rfl rfl rfl (fun w0 => ?_) (fun w0 hI => ?_) (fun K hK => ?_); rotate_left 3; (· go_simp; (constructor <;> rfl)); (· exact cK _); (simp only [Act.put, List.setIfInBounds_toArray, List.set_cons_zero, List.set_cons_succ]; refine hK _ _ ?_; clear hK K))
  repeat (first | (refine Abs.step_pure rfl rfl (fun K hK => ?_); go_simp; (try go_bits); (first | refine hK _ _ ?_ | (simp only [↓IntWalk.iteOmega]; go_simp; (try go_bits); refine hK _ _ ?_)); clear hK K) | (refine Abs.step_load (v := ?_) rfl rfl (by kernel_rfl) rfl (fun w0 hI => ?_) (fun K hK => ?_); rotate_left; (· have z0 := (rcell (kp hI (f_s1))).1; go_simp; rfl); (simp only [Act.put, List.setIfInBounds_toArray, List.set_cons_zero, List.set_cons_succ]; refine hK _ _ ?_; clear hK K)) | (refine Abs.step_skip rfl rfl (fun K hK => ?_); (simp only [Act.put, List.setIfInBounds_toArray, List.set_cons_zero, List.set_cons_succ]; refine hK _ _ ?_; clear hK K)))
  intro w3 hb3 hx0 hx1 hx2
  clear hx0 hx1 hx2
  simp only [Abs.T_setF, Abs.T_addA, Abs.T_push, Abs.T_start]
  have f_s3 := kp hb3 (f_s1)
  have rd_l3 := rd_l1.below hb3
  have rd_v3 := rd_v1.below hb3
  have hB3 := bB hB1 hb3
  clear zs_a zs_b
  obtain ⟨zs_a, zs_b, ls3⟩ := rcell f_s3
  go_wp2_with fail
  refine (cP _ rd_l3).mono ?_
  rintro e w9 ⟨v9, rfl, hb9⟩
  go_wp2
  go_ret
  exact ⟨rfl, bB hB3 hb9⟩
include hR hV in
theorem ref11_Right :
    Calls Tryz.prog 12 #[.agg #[.int .i64 kd, .slice RA l.length rc, .int .i64 A, .int .i64 R, .int .i64 N, .int .i64 D, .slice VA vs.length vc, .int .i64 er]] w fun e w' => e = .returned (.bool (sgB ⟨kd, l, ⟨A, R, N, D⟩, vs, er⟩)) ∧ Below w.heap.size w w' := by
  cases h : rnB l
  · have hz : sgB ⟨kd, l, ⟨A, R, N, D⟩, vs, er⟩ = false := by unfold sgB; simp [h]
    rw [hz]
    exact right_a RA VA rc vc l vs kd A R N D er w hR hV h
  by_cases e0 : er < 0
  · have hz : sgB ⟨kd, l, ⟨A, R, N, D⟩, vs, er⟩ = false := by unfold sgB; simp; omega
    rw [hz]
    exact right_b RA VA rc vc l vs kd A R N D er w hR hV h e0
  by_cases e1 : 1099511627776 < er
  · have hz : sgB ⟨kd, l, ⟨A, R, N, D⟩, vs, er⟩ = false := by unfold sgB; simp; omega
    rw [hz]
    exact right_c RA VA rc vc l vs kd A R N D er w hR hV h (by omega) e1
  have e0' : 0 ≤ er := by omega
  have e1' : er ≤ 1099511627776 := by omega
  by_cases hk : kd = 4
  · subst hk
    have hz : sgB ⟨4, l, ⟨A, R, N, D⟩, vs, er⟩ = rwB l vs A R N D := by unfold sgB kdB; simp [h, e0', e1']
    rw [hz]
    unfold rwB zB
    by_cases q : A = 0 ∧ R = 0 ∧ N = 0 ∧ D = 0
    · obtain ⟨rfl, rfl, rfl, rfl⟩ := q
      by_cases hn : vs.length = (tmR l).length
      · rw [decide_eq_true ⟨rfl, rfl, rfl, rfl⟩, decide_eq_true (by rw [← tmR_len h]; omega), Bool.true_and, Bool.true_and]
        exact right_4f RA VA rc vc l vs er w hR hV h e0' e1' hn
      · rw [decide_eq_true ⟨rfl, rfl, rfl, rfl⟩, decide_eq_false (by rw [← tmR_len h]; omega), Bool.true_and, Bool.false_and]
        exact right_4e RA VA rc vc l vs er w hR hV h e0' e1' hn
    · rw [decide_eq_false q, Bool.false_and]
      have hz' : ¬ A = 0 ∨ (A = 0 ∧ ¬ R = 0) ∨ (A = 0 ∧ R = 0 ∧ ¬ N = 0) ∨ (A = 0 ∧ R = 0 ∧ N = 0 ∧ ¬ D = 0) := by omega
      clear hz
      rcases hz' with hz | ⟨rfl, hz⟩ | ⟨rfl, rfl, hz⟩ | ⟨rfl, rfl, rfl, hz⟩
      · exact right_4a RA VA rc vc l vs A R N D er w hR hV h e0' e1' hz
      · exact right_4b RA VA rc vc l vs R N D er w hR hV h e0' e1' hz
      · exact right_4c RA VA rc vc l vs N D er w hR hV h e0' e1' hz
      · exact right_4d RA VA rc vc l vs D er w hR hV h e0' e1' hz
  by_cases hl : vs.length = 0
  · cases hL : isB A R N D
    · have hz : sgB ⟨kd, l, ⟨A, R, N, D⟩, vs, er⟩ = false := by
        have he : (enE A R N D 0 (sgL l) == 0) = false := by unfold enE; simp [hL]
        unfold sgB kdB lnB
        simp only [he, Bool.false_and, Bool.and_false]
        by_cases q1 : kd = 1 <;> by_cases q2 : kd = 2 <;> by_cases q3 : kd = 3 <;> simp [q1, q2, q3]
        intros; omega
      rw [hz]
      exact right_l2 RA VA rc vc l vs kd A R N D er w hR hV h e0' e1' hk hl hL
    · by_cases hkk : kd = (if N = 0 then 1 else if R = 0 then 2 else 3)
      · have hz : sgB ⟨kd, l, ⟨A, R, N, D⟩, vs, er⟩ = (enE A R N D 0 (sgL l) == 0) := by
          unfold sgB kdB lnB
          subst hkk
          by_cases q1 : N = 0
          · simp [q1, h, e0', e1', hl]
          · by_cases q2 : R = 0
            · simp [q1, q2, h, e0', e1', hl]
            · simp [q1, q2, h, e0', e1', hl]
        rw [hz]
        exact right_l4 RA VA rc vc l vs kd A R N D er w hR hV h e0' e1' hk hl hL hkk
      · have hz : sgB ⟨kd, l, ⟨A, R, N, D⟩, vs, er⟩ = false := by
          have hR' := (isB_spec hL).2.2
          unfold sgB kdB lnB
          by_cases q1 : kd = 1
          · subst q1
            have : ¬ N = 0 := fun e => hkk (by rw [if_pos e])
            simp [this]
          · by_cases q2 : kd = 2
            · subst q2
              by_cases n0 : N = 0
              · simp [n0]
              · have : ¬ R = 0 := fun e => hkk (by rw [if_neg n0, if_pos e])
                simp [this]
            · by_cases q3 : kd = 3
              · subst q3
                by_cases r0 : R = 0
                · simp [r0]
                · have n0 : N = 0 := by
                    apply Classical.byContradiction
                    intro n0
                    exact hkk (by rw [if_neg n0, if_neg r0])
                  subst n0
                  obtain ⟨i1, i2, ⟨i3, i4⟩, i5, i6⟩ := isB_parts hL
                  obtain ⟨j1, j2, j3, j4⟩ := slB_spec i2
                  rw [lwD_zero j1] at i4
                  omega
              · simp [q1, q2, q3]
                intros; omega
        rw [hz]
        exact right_l3 RA VA rc vc l vs kd A R N D er w hR hV h e0' e1' hk hl hL hkk
  · have hz : sgB ⟨kd, l, ⟨A, R, N, D⟩, vs, er⟩ = false := by
      have he : ((vs.length : Int) == 0) = false := by simp; intro e; rw [e] at hl; exact hl rfl
      unfold sgB kdB lnB
      simp only [he, Bool.and_false]
      by_cases q1 : kd = 1 <;> by_cases q2 : kd = 2 <;> by_cases q3 : kd = 3 <;> simp [q1, q2, q3]
      intros; omega
    rw [hz]
    exact right_l1 RA VA rc vc l vs kd A R N D er w hR hV h e0' e1' hk (by omega)
end
end Go.Proofs.YtmpfbkeamihjbaaGreat

namespace Go.Proofs.YtmpfbkeamihjbaaGreat
open Go.RowKit
attribute [local go_sem] Oper.semAt_some

set_option maxRecDepth 100000 in
set_option maxHeartbeats 4000000 in
theorem ref11_Same_eq (RA RB VA VB : Option Addr) (rc rd vc vd : Nat) (l : List Rn) (vs : List Int) (kd A R N D er : Int) (w : World) (hR : RR w RA rc l) (hS : RR w RB rd l) (hV : VR w VA vc vs) (hU : VR w VB vd vs) :
    Calls Tryz.prog 15 #[.agg #[.int .i64 kd, .slice RA l.length rc, .int .i64 A, .int .i64 R, .int .i64 N, .int .i64 D, .slice VA vs.length vc, .int .i64 er], .agg #[.int .i64 kd, .slice RB l.length rd, .int .i64 A, .int .i64 R, .int .i64 N, .int .i64 D, .slice VB vs.length vd, .int .i64 er]] w fun e w' => e = .returned (.bool true) ∧ Below w.heap.size w w' := by
  have c1 := fun w hR hS => ref07_Same_eq RA RB rc rd l w hR hS
  have hvc := hV.cap
  have hvt := hV.top
  have huc := hU.cap
  have hut := hU.top
  go_enter Tryz.func15, Tryz.ntmps15
  go_wp2_with fail
  refine (c1 _ (hR.below (bA (bA (b0 _) (.cells #[.int .i64 kd, .slice RA l.length rc, .int .i64 A, .int .i64 R, .int .i64 N, .int .i64 D, .slice VA vs.length vc, .int .i64 er] 27)) (.cells #[.int .i64 kd, .slice RB l.length rd, .int .i64 A, .int .i64 R, .int .i64 N, .int .i64 D, .slice VB vs.length vd, .int .i64 er] 27))) (hS.below (bA (bA (b0 _) (.cells #[.int .i64 kd, .slice RA l.length rc, .int .i64 A, .int .i64 R, .int .i64 N, .int .i64 D, .slice VA vs.length vc, .int .i64 er] 27)) (.cells #[.int .i64 kd, .slice RB l.length rd, .int .i64 A, .int .i64 R, .int .i64 N, .int .i64 D, .slice VB vs.length vd, .int .i64 er] 27)))).mono ?_
  rintro e w1 ⟨rfl, hb1⟩
  have f_s1 := kp hb1 (ka (na w #[.int .i64 kd, .slice RA l.length rc, .int .i64 A, .int .i64 R, .int .i64 N, .int .i64 D, .slice VA vs.length vc, .int .i64 er] 27) (.cells #[.int .i64 kd, .slice RB l.length rd, .int .i64 A, .int .i64 R, .int .i64 N, .int .i64 D, .slice VB vs.length vd, .int .i64 er] 27))
  have f_t1 := kp hb1 (na1 w (.cells #[.int .i64 kd, .slice RA l.length rc, .int .i64 A, .int .i64 R, .int .i64 N, .int .i64 D, .slice VA vs.length vc, .int .i64 er] 27) #[.int .i64 kd, .slice RB l.length rd, .int .i64 A, .int .i64 R, .int .i64 N, .int .i64 D, .slice VB vs.length vd, .int .i64 er] 27)
  have rd_l1 := (hR.below (bA (bA (b0 _) (.cells #[.int .i64 kd, .slice RA l.length rc, .int .i64 A, .int .i64 R, .int .i64 N, .int .i64 D, .slice VA vs.length vc, .int .i64 er] 27)) (.cells #[.int .i64 kd, .slice RB l.length rd, .int .i64 A, .int .i64 R, .int .i64 N, .int .i64 D, .slice VB vs.length vd, .int .i64 er] 27))).below hb1
  have rd_m1 := (hS.below (bA (bA (b0 _) (.cells #[.int .i64 kd, .slice RA l.length rc, .int .i64 A, .int .i64 R, .int .i64 N, .int .i64 D, .slice VA vs.length vc, .int .i64 er] 27)) (.cells #[.int .i64 kd, .slice RB l.length rd, .int .i64 A, .int .i64 R, .int .i64 N, .int .i64 D, .slice VB vs.length vd, .int .i64 er] 27))).below hb1
  have rd_v1 := (hV.below (bA (bA (b0 _) (.cells #[.int .i64 kd, .slice RA l.length rc, .int .i64 A, .int .i64 R, .int .i64 N, .int .i64 D, .slice VA vs.length vc, .int .i64 er] 27)) (.cells #[.int .i64 kd, .slice RB l.length rd, .int .i64 A, .int .i64 R, .int .i64 N, .int .i64 D, .slice VB vs.length vd, .int .i64 er] 27))).below hb1
  have rd_u1 := (hU.below (bA (bA (b0 _) (.cells #[.int .i64 kd, .slice RA l.length rc, .int .i64 A, .int .i64 R, .int .i64 N, .int .i64 D, .slice VA vs.length vc, .int .i64 er] 27)) (.cells #[.int .i64 kd, .slice RB l.length rd, .int .i64 A, .int .i64 R, .int .i64 N, .int .i64 D, .slice VB vs.length vd, .int .i64 er] 27))).below hb1
  have hB1 := bB (bA (bA (b0 w) (.cells #[.int .i64 kd, .slice RA l.length rc, .int .i64 A, .int .i64 R, .int .i64 N, .int .i64 D, .slice VA vs.length vc, .int .i64 er] 27)) (.cells #[.int .i64 kd, .slice RB l.length rd, .int .i64 A, .int .i64 R, .int .i64 N, .int .i64 D, .slice VB vs.length vd, .int .i64 er] 27)) hb1
  obtain ⟨zs_a, zs_b, ls1⟩ := rcell f_s1
  obtain ⟨zt_a, zt_b, lt1⟩ := rcell f_t1
  go_wp2_with fail
  have HV := hide rd_v1
  have HU := hide rd_u1
  have fs := (f_s1)
  have ft := (f_t1)
  have hb0 := hB1
  go_loopw [5] (fun vi wr => ∃ k : Nat, vi = .int .i64 k ∧ k ≤ vs.length ∧ Below w1.heap.size w1 wr) (fun vi _ => vs.length - (intOf vi).toNat)
  case atStart => exact ⟨0, rfl, by omega, b0 _⟩
  case round =>
    obtain ⟨k, rfl, hk, hb⟩ := hrel
    have js := kp hb fs
    have jt := kp hb ft
    by_cases hlt : k < vs.length
    · obtain ⟨ga, oa, ca, rfl, hga, hca⟩ := HV.out.mem (by omega)
      obtain ⟨gb, ob, cb, rfl, hgb, hcb⟩ := HU.out.mem (by omega)
      have q1 := hca k hlt
      have q2 := hcb k hlt
      have ja := kp hb hga
      have jb := kp hb hgb
      clear hca hcb
      generalize vs[k] = x at *
      obtain ⟨zs_a, zs_b, ls2⟩ := rcell js
      obtain ⟨zt_a, zt_b, lt3⟩ := rcell jt
      obtain ⟨za_a, za_b, la4⟩ := rcell ja
      obtain ⟨zb_a, zb_b, lb5⟩ := rcell jb
      go_wp2_with fail
      refine Abs.wp_region_abs (Abs.cls0 _) [0, 1, 2, 3, 4, 5, 6, 7, 8, 9, 10] (by kernel_rfl) (by kernel_rfl) (Below.refl _ _).drew ?_
      repeat (first | (refine Abs.step_pure rfl rfl (fun K hK => ?_); go_simp; (try go_bits); (first | refine hK _ _ ?_ | (simp only [↓IntWalk.iteOmega]; go_simp; (try go_bits); refine hK _ _ ?_)); clear hK K) | (refine Abs.step_load (v := ?_) rfl rfl (by kernel_rfl) rfl (fun w0 hI => ?_) (fun K hK => ?_); rotate_left; (· have z0 := (rcell (kp hI (js))).1; have z1 := (rcell (kp hI (jt))).1; have z2 := (rcell (kp hI (ja))).1; have z3 := (rcell (kp hI (jb))).1; go_simp; rfl); (simp only [Act.put, List.setIfInBounds_toArray, List.set_cons_zero, List.set_cons_succ]; refine hK _ _ ?_; clear hK K)) | (refine Abs.step_skip rfl rfl (fun K hK => ?_); (simp only [Act.put, List.setIfInBounds_toArray, List.set_cons_zero, List.set_cons_succ]; refine hK _ _ ?_; clear hK K)))
      intro w7 hb7 hx0 hx1 hx2
      clear hx0 hx1 hx2
      simp only [Abs.T_setF, Abs.T_addA, Abs.T_push, Abs.T_start]
      have f_s7 := kp hb7 (js)
      have f_t7 := kp hb7 (jt)
      have f_a7 := kp hb7 (ja)
      have f_b7 := kp hb7 (jb)
      have hB7 := bB hb hb7
      clear za_a za_b zb_a zb_b zs_a zs_b zt_a zt_b
      obtain ⟨zs_a, zs_b, ls7⟩ := rcell f_s7
      obtain ⟨zt_a, zt_b, lt7⟩ := rcell f_t7
      obtain ⟨za_a, za_b, la7⟩ := rcell f_a7
      obtain ⟨zb_a, zb_b, lb7⟩ := rcell f_b7
      go_wp2
      go_roundw
      case rel => exact ⟨k + 1, by go_num, by omega, hB7⟩
      case measure => simp [intOf]; omega
    · obtain rfl : k = vs.length := by omega
      obtain ⟨zs_a, zs_b, ls8⟩ := rcell js
      obtain ⟨zt_a, zt_b, lt9⟩ := rcell jt
      go_wp2
      go_ret
      exact ⟨rfl, bB hb0 hb⟩
end Go.Proofs.YtmpfbkeamihjbaaGreat
