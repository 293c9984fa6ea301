/- append onto a row of one's own, beside memory of another kind. Runs by definition: plain law, no program in sight: their times, and the runs of times. yearbookref07.Times at this program: the times of runs. Runs that may be are just the runs of their times: plain law, no program in sight. yearbookref07 at this program: Rising, Of, Same, Right. yearbookref07.Of at this program: the runs of times. -/
import Derived.Test.YtmpfbkeamihjbaaGreatQ1
import Derived.Test.YtmpfbkeamihjbaaGreatQ2
import Derived.Test.YtmpfbkeamihjbaaGreatTail
set_option linter.unusedSimpArgs false
set_option linter.unusedVariables false
namespace Go.Proofs.YtmpfbkeamihjbaaGreat
open Go.RowKit

section
variable {kd : IntKind} {T : TypeId}
theorem OwnC.at_block {B : Nat} {w : World} {v : Value} {l : List Int} (h : OwnC kd T B w v l) {k : Nat} (hk : v.ownBlock = some k) : ∃ cur, w.heap[k]? = some (.cells cur T (0, 0)) := by
  obtain ⟨-, ⟨rfl, -⟩ | ⟨g, cap, cur, rfl, -, hg, -⟩⟩ := h
  · cases hk
  · injection hk with hk
    subst hk
    exact ⟨cur, hg⟩
theorem OwnR.at_block {B : Nat} {w : World} {v : Value} {l : List Rn} (h : OwnR B w v l) {k : Nat} (hk : v.ownBlock = some k) : ∃ cur, w.heap[k]? = some (.cells cur 46 (0, 0)) := by
  obtain ⟨-, ⟨rfl, -⟩ | ⟨g, cap, cur, rfl, -, hg, -⟩⟩ := h
  · cases hk
  · injection hk with hk
    subst hk
    exact ⟨cur, hg⟩
/-- a block of another kind is not the one that grew -/
theorem grown_other {w w' : World} {row : Option Nat} {T t : TypeId} {g : Nat} {cs : Array Value} (hr : ∀ k, row = some k → ∃ cur, w.heap[k]? = some (.cells cur T (0, 0))) (hg : w.grownBy w' row) (h : w.heap[g]? = some (.cells cs t (0, 0))) (ht : t ≠ T) : w'.heap[g]? = some (.cells cs t (0, 0)) := by
  refine (hg.block g (Array.getElem?_eq_some_iff.1 h).1 ?_).trans h
  intro e
  obtain ⟨cur, hc⟩ := hr g e.symm
  rw [h] at hc
  injection hc with hc
  injection hc with _ h2 _
  exact ht h2

set_option maxRecDepth 100000 in
/-- append onto a row of the call's own: what the world keeps besides -/
theorem wpList_pushCg {ops : Array Oper} {rest : List Oper} {o : Oper} {a : Act} {w : World} {Q : Exit → Act → World → Prop} (hgd : o.guard = none) (s x : Operand) (ST : TypeId)
    (ho : o.op = .call { callee := .builtin .append, args := #[s, x], argTypes := #[ST, ST] }) (bytes : Nat) (hST : Tryz.prog.underlying ST = some (.slice T)) (info : (Tryz.prog.info? T).map (fun i => (i.zero, i.size, i.bytes)) = some (some (.int kd 0), 1, bytes)) (hby : bytes ≤ 8) (B : Nat) (v : Value) (l m : List Int) (A : Option Addr) (c : Nat)
    (hs : a.eval s = v) (hx : a.eval x = .slice A m.length c) (hown : OwnC kd T B w v l) (hr : InC kd w A m) (hlen : l.length + m.length ≤ 1048576) (hB : B ≤ w.heap.size)
    (h : ∀ v' w', OwnC kd T B w' v' (l ++ m) → (∀ w0 : World, Below B w0 w → Below B w0 w') → (∀ (g : Nat) (cs : Array Value) (t : TypeId), w.heap[g]? = some (.cells cs t (0, 0)) → t ≠ T → w'.heap[g]? = some (.cells cs t (0, 0))) → w.heap.size ≤ w'.heap.size → wpList Tryz.prog ops Q rest (a.put o.dst v') w') : wpList Tryz.prog ops Q (o :: rest) a w := by
  obtain ⟨v', w', hrun, h2, h3, h5⟩ := pushC_run w ST o.type bytes hST info hby hown hr hlen hB
  refine wpList_plain hgd fun _ hK => ?_
  unfold Oper.wp execOp
  simp only [ho, resolve, invoke, builtin, Sem.run_bind, Sem.run_pure, Result.andThen_ok, List.map_toArray, List.map_cons, List.map_nil, hs, hx]
  rw [hrun]
  exact hK _ _ (h v' w' h2 (fun w0 hb => hb.grown h3 hB hown.lt) (fun g cs t hg ht => grown_other (fun k hk => hown.at_block hk) h3 hg ht) h3.size)
end
theorem OwnC.one {kd : IntKind} {T : TypeId} (w : World) (x : Int) : OwnC kd T w.heap.size (w.alloc (.cells #[.int kd x] T)) (.slice (some ⟨w.heap.size, 0, none⟩) 1 1) [x] :=
  ⟨rfl, .inr ⟨w.heap.size, 1, _, rfl, Nat.le_refl _, na w _ _, Nat.le_refl _, by decide, rfl, rfl⟩⟩
end Go.Proofs.YtmpfbkeamihjbaaGreat

namespace Go.Proofs.YtmpfbkeamihjbaaGreat
open Go.RowKit

/-- a run's first times -/
def tmK (r : Rn) (m : Nat) : List Int := (List.range m).map fun (k : Nat) => r.f + (k : Int) * r.s
def tmOf (r : Rn) : List Int := tmK r r.n.toNat
theorem tmK_len (r : Rn) (m : Nat) : (tmK r m).length = m := by simp [tmK]
theorem tmK_succ (r : Rn) (m : Nat) : tmK r (m + 1) = tmK r m ++ [r.f + (m : Int) * r.s] := by simp [tmK, List.range_succ]
theorem tmOf_nat (f s : Int) (m : Nat) : tmOf ⟨f, s, (m : Int)⟩ = tmK ⟨f, s, (m : Int)⟩ m := by simp [tmOf]
/-- a run whose times are not gone through -/
def tmBad (r : Rn) (m : Nat) : Bool := decide (r.n < 1) || (decide (256 < r.n) || (decide (256 < (m : Int) + r.n) || (decide (r.s < 0) || (decide (281474976710656 < r.s) || (decide (r.f < 0) || decide (281474976710656 < r.f))))))
theorem tmBad_no {r : Rn} {m : Nat} (h : tmBad r m = false) : 1 ≤ r.n ∧ r.n ≤ 256 ∧ (m : Int) + r.n ≤ 256 ∧ 0 ≤ r.s ∧ r.s ≤ 281474976710656 ∧ 0 ≤ r.f ∧ r.f ≤ 281474976710656 := by
  unfold tmBad at h
  simp only [Bool.or_eq_false_iff, decide_eq_false_iff_not] at h
  omega
def tmGo : List Rn → List Int → List Int
  | [], acc => acc
  | r :: l, acc => if tmBad r acc.length = true then [] else tmGo l (acc ++ tmOf r)
/-- the times of runs, if they are gone through -/
def tmR (l : List Rn) : List Int := tmGo l []
end Go.Proofs.YtmpfbkeamihjbaaGreat

namespace Go.Proofs.YtmpfbkeamihjbaaGreat
open Go.RowKit
attribute [local go_sem] Oper.semAt_some

theorem tmBad_cases {f s n : Int} {m : Nat} (h : tmBad ⟨f, s, n⟩ m = true) : n < 1 ∨ (1 ≤ n ∧ 256 < n) ∨ (1 ≤ n ∧ n ≤ 256 ∧ 256 < (m : Int) + n) ∨ (1 ≤ n ∧ n ≤ 256 ∧ (m : Int) + n ≤ 256 ∧ s < 0) ∨ (1 ≤ n ∧ n ≤ 256 ∧ (m : Int) + n ≤ 256 ∧ 0 ≤ s ∧ 281474976710656 < s) ∨ (1 ≤ n ∧ n ≤ 256 ∧ (m : Int) + n ≤ 256 ∧ 0 ≤ s ∧ s ≤ 281474976710656 ∧ f < 0) ∨ (1 ≤ n ∧ n ≤ 256 ∧ (m : Int) + n ≤ 256 ∧ 0 ≤ s ∧ s ≤ 281474976710656 ∧ 0 ≤ f ∧ 281474976710656 < f) := by
  unfold tmBad at h
  simp only [Bool.or_eq_true, decide_eq_true_eq] at h
  omega

set_option maxRecDepth 100000 in
set_option maxHeartbeats 8000000 in
theorem ref07_Times (A : Option Addr) (c : Nat) (l : List Rn) (w : World) (hR : RR w A c l) :
    Calls Tryz.prog 33 #[.slice A l.length c] w fun e w' => ∃ A' c' n', e = .returned (.slice A' n' c') ∧ Hid (n' = (tmR l).length) ∧ VR w' A' c' (tmR l) ∧ Below w.heap.size w w' := by
  have hcap := hR.cap
  have htop := hR.top
  go_enter Tryz.func33, Tryz.ntmps33
  go_wp2_with fail
  go_loopw [3, 4] (fun vo vi wr => ∃ (k : Nat) (acc : List Int) (v0 : Value), v0 = vo ∧ vi = .int .i64 k ∧ k ≤ l.length ∧ acc.length ≤ 256 ∧ Hid (tmR l = tmGo (l.drop k) acc) ∧ OwnC .i64 2 w.heap.size wr v0 acc ∧ Below w.heap.size w wr) (fun _ vi _ => l.length - (intOf vi).toNat)
  case atStart => exact ⟨0, [], _, rfl, rfl, by omega, by simp, hide rfl, OwnC.nil _ _, b0 w⟩
  case round =>
    obtain ⟨k, acc, v0, rfl, rfl, hk, hal, hgo, ho, hb⟩ := hrel
    obtain ⟨A0, c0, rfl, hy0⟩ := ho.cr
    have hrc := hy0.cap
    have hrt := hy0.top
    by_cases hlt : k < l.length
    · obtain ⟨g, oo, cur, rfl, hg, hcc⟩ := hR.mem (by omega)
      obtain ⟨z1, z2, z3⟩ := hcc k hlt
      have hgr := kp hb hg
      have hdrop : l.drop k = l[k] :: l.drop (k + 1) := List.drop_eq_getElem_cons hlt
      have hgo2 := hgo.out
      rw [hdrop] at hgo2
      clear hcc hdrop hgo hy0
      generalize l[k] = r at *
      obtain ⟨f, s, n⟩ := r
      simp only at z1 z2 z3
      cases hbad : tmBad ⟨f, s, n⟩ acc.length
      · have hgo3 : Hid (tmR l = tmGo (l.drop (k + 1)) (acc ++ tmOf ⟨f, s, n⟩)) := hide (by rw [hgo2, tmGo, hbad]; rfl)
        clear hgo2
        have hsp := tmBad_no hbad
        simp only at hsp
        clear hbad
        obtain ⟨h1, h2, h3, h4, h5, h6, h7⟩ := hsp
        obtain ⟨N, rfl⟩ : ∃ N : Nat, n = (N : Int) := ⟨n.toNat, by omega⟩
        have d1 : decide ((N : Int) < 1) = false := decide_eq_false (by omega)
        have d2 : decide (256 < (N : Int)) = false := decide_eq_false (by omega)
        have d3 : decide (256 < (acc.length : Int) + (N : Int)) = false := decide_eq_false (by omega)
        have d4 : decide (s < 0) = false := decide_eq_false (by omega)
        have d5 : decide (281474976710656 < s) = false := decide_eq_false (by omega)
        have d6 : decide (f < 0) = false := decide_eq_false (by omega)
        have d7 : decide (281474976710656 < f) = false := decide_eq_false (by omega)
        obtain ⟨zg_a, zg_b, lg1⟩ := rcell hgr
        go_wp2_with fail
        clear d1 d2 d3 d4 d5 d6 d7
        have ho1 := ho.lift (bA (b0 wr) (.cells #[.int .i64 f, .int .i64 s, .int .i64 (N : Int)] 46))
        have jr := (na wr #[.int .i64 f, .int .i64 s, .int .i64 (N : Int)] 46)
        have jb := (bA hb (.cells #[.int .i64 f, .int .i64 s, .int .i64 (N : Int)] 46))
        clear ho
        have hws := hb.size
        generalize wr.heap.size = gr at jr
        go_loopw [3, 6] (fun vo vi wr => ∃ (j : Nat) (v1 : Value), v1 = vo ∧ vi = .int .i64 j ∧ j ≤ N ∧ OwnC .i64 2 w.heap.size wr v1 (acc ++ tmK ⟨f, s, N⟩ j) ∧ wr.heap[gr]? = some (.cells #[.int .i64 f, .int .i64 s, .int .i64 (N : Int)] 46 (0, 0)) ∧ Below w.heap.size w wr) (fun _ vi _ => N - (intOf vi).toNat)
        case atStart => exact ⟨0, _, rfl, rfl, by omega, by simpa [tmK] using ho1, jr, jb⟩
        case round =>
          obtain ⟨j, v1, rfl, rfl, hj, ho, jr, hb⟩ := hrel
          by_cases hlt2 : j < N
          · have hpl : 0 ≤ (j : Int) * s := Int.mul_nonneg (by omega) h4
            have hpu : (j : Int) * s ≤ 256 * 281474976710656 := Int.le_trans (Int.mul_le_mul_of_nonneg_right (show (j : Int) ≤ 256 by omega) h4) (Int.mul_le_mul_of_nonneg_left h5 (by decide))
            obtain ⟨p, hp⟩ : ∃ p, (j : Int) * s = p := ⟨_, rfl⟩
            rw [hp] at hpl hpu
            have hsucc := tmK_succ ⟨f, s, N⟩ j
            simp only at hsucc
            rw [hp] at hsucc
            have hw1 : wrap64 p = p := by unfold wrap64; omega
            have hw2 : wrap64 (f + p) = f + p := by unfold wrap64; omega
            have HS := hide hsucc
            have kl : (acc ++ tmK ⟨f, s, N⟩ j).length + [f + p].length ≤ 1048576 := by simp [tmK_len]; omega
            generalize tmK ⟨f, s, N⟩ j = q at *
            clear hsucc
            obtain ⟨zr_a, zr_b, lr2⟩ := rcell jr
            have kw := hb.size
            have kB : w.heap.size ≤ (wr.alloc (.cells #[.int .i64 (f + p)] 2)).heap.size := by simp; omega
            go_wp2_with (at_builtin; refine wpList_pushCg rfl _ _ 25 rfl 8 Tryz.underlying25 long_info (by decide) w.heap.size _ (acc ++ q) [f + p] _ _ rfl rfl (ho.lift (bA (b0 _) _)) (CR.oneI (T := 2) _ _).inC kl kB ?_; intro v2 w5 ho5 hb5 hk5 hs5)
            have hb6 := hb5 _ (bA hb _)
            have jr5 := hk5 gr _ _ (ka jr _) (by decide)
            go_roundw
            case rel => exact ⟨j + 1, v2, rfl, by go_num, by omega, by rw [HS.out, ← List.append_assoc]; exact ho5, jr5, hb6⟩
            case measure => simp [intOf]; omega
          · obtain rfl : j = N := by omega
            have HO := hide ho
            clear ho
            obtain ⟨zr_a, zr_b, lr3⟩ := rcell jr
            go_wp2_with fail
            go_roundw
            case rel => exact ⟨k + 1, acc ++ tmK ⟨f, s, j⟩ j, v1, rfl, by go_num, by omega, by simp [tmK_len]; omega, hide (hgo3.out.trans (by rw [tmOf_nat])), HO.out, hb⟩
            case measure => simp [intOf]; omega
      · have hno : Hid (tmR l = []) := hide (by rw [hgo2, tmGo, hbad]; rfl)
        have hIn := tmBad_cases hbad
        clear hgo2 hbad
        rcases hIn with hIn | ⟨i1, hIn⟩ | ⟨i1, i2, hIn⟩ | ⟨i1, i2, i3, hIn⟩ | ⟨i1, i2, i3, i4, hIn⟩ | ⟨i1, i2, i3, i4, i5, hIn⟩ | ⟨i1, i2, i3, i4, i5, i6, hIn⟩
        · skip
          have e0 : decide (n < 1) = true := decide_eq_true (by omega)
          obtain ⟨zg_a, zg_b, lg4⟩ := rcell hgr
          go_wp2_with fail
          go_ret
          exact ⟨none, 0, 0, rfl, hide (by rw [hno.out]; rfl), by rw [hno.out]; exact CR.nil _ _ _ (by omega), (bA hb (.cells #[.int .i64 f, .int .i64 s, .int .i64 n] 46))⟩
        · skip
          have e0 : decide (n < 1) = false := decide_eq_false (by omega)
          have e1 : decide (256 < n) = true := decide_eq_true (by omega)
          obtain ⟨zg_a, zg_b, lg5⟩ := rcell hgr
          go_wp2_with fail
          go_ret
          exact ⟨none, 0, 0, rfl, hide (by rw [hno.out]; rfl), by rw [hno.out]; exact CR.nil _ _ _ (by omega), (bA hb (.cells #[.int .i64 f, .int .i64 s, .int .i64 n] 46))⟩
        · skip
          have e0 : decide (n < 1) = false := decide_eq_false (by omega)
          have e1 : decide (256 < n) = false := decide_eq_false (by omega)
          have e2 : decide (256 < (acc.length : Int) + n) = true := decide_eq_true (by omega)
          obtain ⟨zg_a, zg_b, lg6⟩ := rcell hgr
          go_wp2_with fail
          go_ret
          exact ⟨none, 0, 0, rfl, hide (by rw [hno.out]; rfl), by rw [hno.out]; exact CR.nil _ _ _ (by omega), (bA hb (.cells #[.int .i64 f, .int .i64 s, .int .i64 n] 46))⟩
        · skip
          have e0 : decide (n < 1) = false := decide_eq_false (by omega)
          have e1 : decide (256 < n) = false := decide_eq_false (by omega)
          have e2 : decide (256 < (acc.length : Int) + n) = false := decide_eq_false (by omega)
          have e3 : decide (s < 0) = true := decide_eq_true (by omega)
          obtain ⟨zg_a, zg_b, lg7⟩ := rcell hgr
          go_wp2_with fail
          go_ret
          exact ⟨none, 0, 0, rfl, hide (by rw [hno.out]; rfl), by rw [hno.out]; exact CR.nil _ _ _ (by omega), (bA hb (.cells #[.int .i64 f, .int .i64 s, .int .i64 n] 46))⟩
        · skip
          have e0 : decide (n < 1) = false := decide_eq_false (by omega)
          have e1 : decide (256 < n) = false := decide_eq_false (by omega)
          have e2 : decide (256 < (acc.length : Int) + n) = false := decide_eq_false (by omega)
          have e3 : decide (s < 0) = false := decide_eq_false (by omega)
          have e4 : decide (281474976710656 < s) = true := decide_eq_true (by omega)
          obtain ⟨zg_a, zg_b, lg8⟩ := rcell hgr
          go_wp2_with fail
          go_ret
          exact ⟨none, 0, 0, rfl, hide (by rw [hno.out]; rfl), by rw [hno.out]; exact CR.nil _ _ _ (by omega), (bA hb (.cells #[.int .i64 f, .int .i64 s, .int .i64 n] 46))⟩
        · skip
          have e0 : decide (n < 1) = false := decide_eq_false (by omega)
          have e1 : decide (256 < n) = false := decide_eq_false (by omega)
          have e2 : decide (256 < (acc.length : Int) + n) = false := decide_eq_false (by omega)
          have e3 : decide (s < 0) = false := decide_eq_false (by omega)
          have e4 : decide (281474976710656 < s) = false := decide_eq_false (by omega)
          have e5 : decide (f < 0) = true := decide_eq_true (by omega)
          obtain ⟨zg_a, zg_b, lg9⟩ := rcell hgr
          go_wp2_with fail
          go_ret
          exact ⟨none, 0, 0, rfl, hide (by rw [hno.out]; rfl), by rw [hno.out]; exact CR.nil _ _ _ (by omega), (bA hb (.cells #[.int .i64 f, .int .i64 s, .int .i64 n] 46))⟩
        · skip
          have e0 : decide (n < 1) = false := decide_eq_false (by omega)
          have e1 : decide (256 < n) = false := decide_eq_false (by omega)
          have e2 : decide (256 < (acc.length : Int) + n) = false := decide_eq_false (by omega)
          have e3 : decide (s < 0) = false := decide_eq_false (by omega)
          have e4 : decide (281474976710656 < s) = false := decide_eq_false (by omega)
          have e5 : decide (f < 0) = false := decide_eq_false (by omega)
          have e6 : decide (281474976710656 < f) = true := decide_eq_true (by omega)
          obtain ⟨zg_a, zg_b, lg10⟩ := rcell hgr
          go_wp2_with fail
          go_ret
          exact ⟨none, 0, 0, rfl, hide (by rw [hno.out]; rfl), by rw [hno.out]; exact CR.nil _ _ _ (by omega), (bA hb (.cells #[.int .i64 f, .int .i64 s, .int .i64 n] 46))⟩
    · obtain rfl : k = l.length := by omega
      have hfin : Hid (tmR l = acc) := hide (by rw [hgo.out, List.drop_length]; rfl)
      clear hgo
      go_wp2
      go_ret
      exact ⟨A0, c0, acc.length, rfl, hide (by rw [hfin.out]), by rw [hfin.out]; exact hy0, hb⟩
end Go.Proofs.YtmpfbkeamihjbaaGreat

namespace Go.Proofs.YtmpfbkeamihjbaaGreat
open Go.RowKit

/-! ### the runs of times -/
/-- how many of the numbers go on by d, from x on -/
def goN (d : Int) : Int → List Int → Nat
  | _, [] => 0
  | x, y :: r => if y - x = d then goN d y r + 1 else 0
def ofR : Nat → List Int → List Rn
  | 0, _ => []
  | _ + 1, [] => []
  | _ + 1, [x] => [⟨x, 0, 1⟩]
  | m + 1, x :: y :: r => ⟨x, y - x, ((goN (y - x) y r + 2 : Nat) : Int)⟩ :: ofR m (r.drop (goN (y - x) y r))
def ofT (t : List Int) : List Rn := ofR t.length t
/-- rising numbers above lo, at most the last time -/
def rsC : Int → List Int → Bool
  | _, [] => true
  | lo, x :: r => decide (lo < x) && (decide (x ≤ 281474976710656) && rsC x r)
def rsB (t : List Int) : Bool := decide (1 ≤ t.length) && (decide (t.length ≤ 256) && rsC (-1) t)

theorem rsC_cons {lo x : Int} {r : List Int} : rsC lo (x :: r) = true ↔ lo < x ∧ x ≤ 281474976710656 ∧ rsC x r = true := by
  rw [rsC]
  simp only [Bool.and_eq_true, decide_eq_true_eq]
theorem goN_le (d : Int) : ∀ (r : List Int) (x : Int), goN d x r ≤ r.length
  | [], _ => Nat.le_refl _
  | y :: r, x => by
    rw [goN]
    have := goN_le d r y
    split <;> simp <;> omega
/-- the numbers that go on -/
theorem goN_spec (d : Int) : ∀ (r : List Int) (x : Int), r.take (goN d x r) = tmK ⟨x + d, d, 0⟩ (goN d x r) ∧ (∀ z l, r.drop (goN d x r) = z :: l → z - (x + (goN d x r : Int) * d) ≠ d)
  | [], x => ⟨rfl, fun z l h => by cases h⟩
  | y :: r, x => by
    rw [goN]
    by_cases h : y - x = d
    · rw [if_pos h]
      obtain ⟨h1, h2⟩ := goN_spec d r y
      have ey : y = x + d := by omega
      subst ey
      refine ⟨?_, fun z l e => ?_⟩
      · rw [List.take_succ_cons, h1]
        unfold tmK
        rw [List.range_succ_eq_map, List.map_cons, List.map_map]
        congr 1
        · simp
        · apply List.map_congr_left
          intro k _
          simp only [Function.comp, Nat.succ_eq_add_one]
          push_cast
          rw [Int.add_mul]
          omega
      · rw [List.drop_succ_cons] at e
        have := h2 z l e
        push_cast
        rw [Int.add_mul]
        intro hh
        exact this (by omega)
    · rw [if_neg h]
      refine ⟨rfl, fun z l e => ?_⟩
      rw [List.drop_zero] at e
      injection e with e1 e2
      subst e1
      simpa using h
theorem tmK_cons (f s n : Int) (m : Nat) : tmK ⟨f, s, n⟩ (m + 1) = f :: tmK ⟨f + s, s, n⟩ m := by
  unfold tmK
  rw [List.range_succ_eq_map, List.map_cons, List.map_map]
  congr 1
  · simp
  · apply List.map_congr_left
    intro k _
    simp only [Function.comp, Nat.succ_eq_add_one]
    push_cast
    rw [Int.add_mul]
    omega
/-! ### runs, from one to the next -/
def rnC : List Rn → Bool
  | [] => true
  | [r] => rnIs r && rnForm true r
  | r :: q :: l => (rnIs r && rnForm false r) && (rnGap r q && rnC (q :: l))
theorem rn_zero (r : Rn) (l : List Rn) : rn (r :: l) 0 = r := rfl
theorem rn_succ (r : Rn) (l : List Rn) (i : Nat) : rn (r :: l) (i + 1) = rn l i := by unfold rn; simp
theorem rnC_at : ∀ l, rnC l = true ↔ ∀ i, i < l.length → rnAt l i = true
  | [] => ⟨fun _ i h => absurd h (Nat.not_lt_zero _), fun _ => rfl⟩
  | [r] => by
    have e : rnAt [r] 0 = (rnIs r && rnForm true r) := by
      unfold rnAt
      rw [rn_zero]
      simp
    constructor
    · intro h i hi
      obtain rfl : i = 0 := by simpa using hi
      rw [e]
      exact h
    · intro h
      have := h 0 (by simp)
      rw [e] at this
      exact this
  | r :: q :: l => by
    have e0 : rnAt (r :: q :: l) 0 = (rnIs r && rnForm false r) := by
      unfold rnAt
      rw [rn_zero]
      simp
    have e1 : ∀ i, rnAt (r :: q :: l) (i + 2) = rnAt (q :: l) (i + 1) := by
      intro i
      unfold rnAt
      rw [rn_succ]
      have : decide (i + 2 + 1 = (r :: q :: l).length) = decide (i + 1 + 1 = (q :: l).length) := by
        apply decide_eq_decide.2
        simp
      rw [this, show i + 2 - 1 = i + 1 by omega, rn_succ, show i + 1 - 1 = i by omega]
      simp [rn_succ]
    have e2 : rnAt (r :: q :: l) 1 = (rnAt (q :: l) 0 && rnGap r q) := by
      unfold rnAt
      rw [show (1 : Nat) - 1 = 0 from rfl, rn_zero, show (1 : Nat) = 0 + 1 from rfl, rn_succ, rn_zero]
      have : decide (0 + 1 + 1 = (r :: q :: l).length) = decide (0 + 1 = (q :: l).length) := by
        apply decide_eq_decide.2
        simp
      rw [this]
      simp
    rw [rnC]
    have ih := rnC_at (q :: l)
    constructor
    · intro h i hi
      simp only [Bool.and_eq_true] at h
      obtain ⟨⟨h1, h2⟩, h3, h4⟩ := h
      have h5 := ih.1 h4
      match i, hi with
      | 0, _ => rw [e0, h1, h2]; rfl
      | 1, _ => rw [e2, h5 0 (by simp), h3]; rfl
      | i + 2, hi => rw [e1]; exact h5 (i + 1) (by simp at hi ⊢; omega)
    · intro h
      have h0 := h 0 (by simp)
      have h1 := h 1 (by simp)
      rw [e0] at h0
      rw [e2] at h1
      simp only [Bool.and_eq_true] at h0 h1 ⊢
      refine ⟨h0, h1.2, ih.2 fun i hi => ?_⟩
      match i, hi with
      | 0, _ => exact h1.1
      | i + 1, hi => rw [← e1]; exact h (i + 2) (by simp at hi ⊢; omega)
def rsum : List Rn → Int
  | [] => 0
  | r :: l => r.n + rsum l
theorem rnSum_cons (r : Rn) (l : List Rn) : ∀ k, rnSum (r :: l) (k + 1) = r.n + rnSum l k
  | 0 => by rw [rnSum, rnSum, rnSum, rn_zero]; omega
  | k + 1 => by rw [rnSum, rnSum_cons r l k, rnSum, rn_succ]; omega
theorem rnSum_len : ∀ l : List Rn, rnSum l l.length = rsum l
  | [] => rfl
  | r :: l => by rw [List.length_cons, rnSum_cons, rnSum_len l, rsum]
theorem rnB_C {l : List Rn} : rnB l = true ↔ 0 < l.length ∧ l.length ≤ 256 ∧ rnC l = true ∧ rsum l ≤ 256 := by
  constructor
  · intro h
    obtain ⟨h1, h2, h3, h4⟩ := rnB_spec h
    exact ⟨h1, h2, (rnC_at l).2 h3, by rw [← rnSum_len]; exact h4⟩
  · rintro ⟨h1, h2, h3, h4⟩
    rw [rnB_of h1 h2 ((rnC_at l).1 h3), rnSum_len]
    exact decide_eq_true h4

theorem rnC_head {r : Rn} {l : List Rn} (h : rnC (r :: l) = true) : rnIs r = true ∧ ((r.n == 1) = (r.s == 0)) ∧ (r.n = 1 → l = []) ∧ r.f + r.s * (r.n - 1) ≤ 281474976710656 ∧ rnC l = true ∧ (∀ q l', l = q :: l' → 0 < q.f - (r.f + r.s * (r.n - 1)) ∧ q.f - (r.f + r.s * (r.n - 1)) ≠ r.s) := by
  cases l with
  | nil =>
    rw [rnC] at h
    simp only [Bool.and_eq_true] at h
    obtain ⟨h1, h2⟩ := h
    unfold rnForm at h2
    simp only [Bool.and_eq_true, decide_eq_true_eq] at h2
    exact ⟨h1, h2.1.1, fun _ => rfl, h2.2, rfl, fun q l' e => by cases e⟩
  | cons q l =>
    rw [rnC] at h
    simp only [Bool.and_eq_true] at h
    obtain ⟨⟨h1, h2⟩, h3, h4⟩ := h
    unfold rnForm at h2
    unfold rnGap at h3
    simp only [Bool.and_eq_true, Bool.or_eq_true, decide_eq_true_eq, Bool.not_eq_true', decide_eq_false_iff_not] at h2 h3
    refine ⟨h1, h2.1.1, fun e => ?_, h2.2, h4, fun q' l' e => ?_⟩
    · rcases h2.1.2 with h | h
      · omega
      · cases h
    · injection e with e1 e2
      subst e1
      exact h3

/-! ### the times -/
def flat : List Rn → List Int
  | [] => []
  | r :: l => tmOf r ++ flat l
theorem tmGo_flat : ∀ (l : List Rn) (acc : List Int), (∀ r ∈ l, rnIs r = true) → (acc.length : Int) + rsum l ≤ 256 → tmGo l acc = acc ++ flat l
  | [], acc, _, _ => by rw [tmGo, flat, List.append_nil]
  | r :: l, acc, h, hs => by
    have hr := rnIs_spec (h r List.mem_cons_self)
    have hl := fun q hq => h q (List.mem_cons_of_mem _ hq)
    have hp : ∀ l : List Rn, (∀ r ∈ l, rnIs r = true) → 0 ≤ rsum l := by
      intro l
      induction l with
      | nil => intro _; exact Int.le_refl _
      | cons q l ih =>
        intro hh
        have a := rnIs_spec (hh q List.mem_cons_self)
        have b := ih fun x hx => hh x (List.mem_cons_of_mem _ hx)
        rw [rsum]
        omega
    have hpl := hp l hl
    rw [rsum] at hs
    have hb : tmBad r acc.length = false := by
      unfold tmBad
      simp only [Bool.or_eq_false_iff, decide_eq_false_iff_not]
      omega
    have hlen : (tmOf r).length = r.n.toNat := tmK_len _ _
    rw [tmGo, hb, if_neg (by simp), tmGo_flat l _ hl (by rw [List.length_append, hlen]; omega), flat, List.append_assoc]
theorem rnC_mem : ∀ {l : List Rn}, rnC l = true → ∀ r ∈ l, rnIs r = true
  | [], _, r, hr => by cases hr
  | q :: l, h, r, hr => by
    obtain ⟨h1, _, _, _, h5, _⟩ := rnC_head h
    rcases List.mem_cons.1 hr with rfl | hr
    · exact h1
    · exact rnC_mem h5 r hr
theorem tmR_flat {l : List Rn} (h : rnB l = true) : tmR l = flat l := by
  obtain ⟨_, _, h3, h4⟩ := rnB_C.1 h
  rw [tmR, tmGo_flat l [] (rnC_mem h3) (by simpa using h4), List.nil_append]
theorem flat_len : ∀ {l : List Rn}, (∀ r ∈ l, rnIs r = true) → ((flat l).length : Int) = rsum l
  | [], _ => rfl
  | r :: l, h => by
    have hr := rnIs_spec (h r List.mem_cons_self)
    have hl := flat_len fun q hq => h q (List.mem_cons_of_mem _ hq)
    have hlen : (tmOf r).length = r.n.toNat := tmK_len _ _
    rw [flat, rsum, List.length_append, hlen]
    push_cast
    omega
/-- a run's times rise -/
theorem rsC_tmK (s n : Int) (rest : List Int) : ∀ (m : Nat) (f lo : Int), lo < f → 0 ≤ s → (1 < m → 0 < s) → f + s * ((m : Int) - 1) ≤ 281474976710656 → 0 < m → rsC (f + s * ((m : Int) - 1)) rest = true → rsC lo (tmK ⟨f, s, n⟩ m ++ rest) = true
  | 0, _, _, _, _, _, _, h, _ => absurd h (by omega)
  | 1, f, lo, h1, _, _, h3, _, h5 => by
    rw [tmK_cons]
    simp only [List.cons_append]
    rw [rsC_cons]
    have e : f + s * (((1 : Nat) : Int) - 1) = f := by simp
    rw [e] at h3 h5
    exact ⟨h1, h3, h5⟩
  | m + 2, f, lo, h1, h0, h2, h3, _, h5 => by
    have hs := h2 (by omega)
    have e : f + s * (((m + 2 : Nat) : Int) - 1) = f + s + s * (((m + 1 : Nat) : Int) - 1) := by
      rw [show ((m + 2 : Nat) : Int) - 1 = (((m + 1 : Nat) : Int) - 1) + 1 by omega, Int.mul_add]
      omega
    rw [e] at h3 h5
    rw [tmK_cons]
    simp only [List.cons_append]
    rw [rsC_cons]
    have hm := Int.mul_nonneg h0 (show 0 ≤ ((m + 1 : Nat) : Int) - 1 by omega)
    exact ⟨h1, by omega, rsC_tmK s n rest (m + 1) (f + s) f (by omega) h0 (fun _ => hs) h3 (by omega) h5⟩
theorem flat_rs : ∀ (l : List Rn) (lo : Int), rnC l = true → (∀ q l', l = q :: l' → lo < q.f) → rsC lo (flat l) = true
  | [], _, _, _ => rfl
  | r :: l, lo, h, hlo => by
    obtain ⟨h1, h2, h3, h4, h5, h6⟩ := rnC_head h
    have hr := rnIs_spec h1
    have hn : ((r.n.toNat : Nat) : Int) = r.n := by omega
    rw [flat]
    refine rsC_tmK r.s r.n (flat l) r.n.toNat r.f lo (hlo r l rfl) hr.2.2.2.2.1 (fun hm => ?_) (by rw [hn]; exact h4) (by omega) ?_
    · have e1 : (r.n == 1) = false := by simp; omega
      rw [e1] at h2
      have : r.s ≠ 0 := by
        intro e
        rw [e] at h2
        cases h2
      omega
    · rw [hn]
      exact flat_rs l _ h5 fun q l' e => by have := (h6 q l' e).1; omega
theorem flat_head {q : Rn} {l : List Rn} (h : rnIs q = true) : ∃ r, flat (q :: l) = q.f :: r := by
  have hr := rnIs_spec h
  obtain ⟨m, hm⟩ : ∃ m, q.n.toNat = m + 1 := ⟨q.n.toNat - 1, by omega⟩
  refine ⟨tmK ⟨q.f + q.s, q.s, q.n⟩ m ++ flat l, ?_⟩
  rw [flat, tmOf, hm]
  have := tmK_cons q.f q.s q.n m
  rw [show (⟨q.f, q.s, q.n⟩ : Rn) = q from rfl] at this
  rw [this]
  rfl
theorem goN_tmK (s n : Int) (rest : List Int) : ∀ (k : Nat) (x : Int), (∀ z l, rest = z :: l → z - (x + (k : Int) * s) ≠ s) → goN s x (tmK ⟨x + s, s, n⟩ k ++ rest) = k
  | 0, x, h => by
    cases rest with
    | nil => rfl
    | cons z l =>
      have := h z l rfl
      show goN s x (z :: l) = 0
      rw [goN, if_neg (by simpa using this)]
  | k + 1, x, h => by
    rw [tmK_cons]
    simp only [List.cons_append]
    rw [goN, if_pos (by omega), goN_tmK s n rest k (x + s) fun z l e => by
      have := h z l e
      push_cast at this
      rw [Int.add_mul] at this
      intro hh
      exact this (by omega)]
theorem ofR_flat : ∀ (m : Nat) (l : List Rn), rnC l = true → (flat l).length ≤ m → ofR m (flat l) = l
  | 0, [], _, _ => rfl
  | 0, r :: l, h, hl => by
    obtain ⟨r', hr'⟩ := flat_head (l := l) (rnC_head h).1
    rw [hr'] at hl
    simp at hl
  | m + 1, [], _, _ => rfl
  | m + 1, r :: l, h, hl => by
    obtain ⟨h1, h2, h3, h4, h5, h6⟩ := rnC_head h
    have hr := rnIs_spec h1
    by_cases hn : r.n = 1
    · obtain rfl := h3 hn
      have hs : r.s = 0 := by
        have e1 : (r.n == 1) = true := by simp [hn]
        rw [e1] at h2
        exact (by simpa using h2.symm)
      have e : flat [r] = [r.f] := by
        rw [flat, flat, tmOf, hn]
        have := tmK_cons r.f r.s r.n 0
        rw [show (⟨r.f, r.s, r.n⟩ : Rn) = r from rfl] at this
        show tmK r 1 ++ [] = [r.f]
        rw [this]
        rfl
      rw [e, ofR]
      obtain ⟨f, s, n⟩ := r
      simp only at hn hs
      rw [hn, hs]
    · obtain ⟨k, hk⟩ : ∃ k : Nat, r.n = ((k + 2 : Nat) : Int) := ⟨(r.n - 2).toNat, by omega⟩
      obtain ⟨f, s, n⟩ := r
      simp only at hk hr h4 h6
      have e : flat (⟨f, s, n⟩ :: l) = f :: (f + s) :: (tmK ⟨f + s + s, s, n⟩ k ++ flat l) := by
        rw [flat, tmOf]
        simp only
        rw [hk, Int.toNat_natCast, tmK_cons, tmK_cons]
        rfl
      have hg : goN s (f + s) (tmK ⟨f + s + s, s, n⟩ k ++ flat l) = k := by
        apply goN_tmK
        intro z l' hz
        cases l with
        | nil => cases hz
        | cons q l2 =>
          obtain ⟨r', hr'⟩ := flat_head (l := l2) (rnC_head h5).1
          rw [hr'] at hz
          injection hz with hz _
          have := (h6 q l2 rfl).2
          rw [hk] at this
          rw [← hz]
          have e2 : f + s * (((k + 2 : Nat) : Int) - 1) = f + s + (k : Int) * s := by
            rw [show ((k + 2 : Nat) : Int) - 1 = (k : Int) + 1 by omega, Int.mul_add, Int.mul_comm s k]
            omega
          rw [← e2]
          exact this
      have hd : (tmK ⟨f + s + s, s, n⟩ k ++ flat l).drop k = flat l := by
        rw [List.drop_append_of_le_length (by rw [tmK_len]; exact Nat.le_refl _)]
        rw [List.drop_of_length_le (by rw [tmK_len]; exact Nat.le_refl _)]
        rfl
      rw [e, ofR, show f + s - f = s by omega, hg, hd, ofR_flat m l h5 (by
        rw [e] at hl
        simp only [List.length_cons, List.length_append] at hl
        omega), hk]

/-! ### the other way: the runs of rising times may be -/
theorem rsC_tail {d : Int} : ∀ (k : Nat) (x : Int) (r : List Int), rsC x r = true → r.take k = tmK ⟨x + d, d, 0⟩ k → k ≤ r.length → x + (k : Int) * d ≤ 281474976710656 ∨ k = 0
  | 0, _, _, _, _, _ => .inr rfl
  | k + 1, x, [], _, _, h => by simp at h
  | k + 1, x, y :: r, h, e, hk => by
    rw [tmK_cons, List.take_succ_cons] at e
    injection e with e1 e2
    obtain ⟨h1, h2, h3⟩ := rsC_cons.1 h
    subst e1
    left
    have := rsC_tail k (x + d) r h3 e2 (by simp at hk; omega)
    push_cast
    rw [Int.add_mul]
    rcases this with h | rfl
    · omega
    · simp
      omega
theorem rsC_drop {d : Int} : ∀ (k : Nat) (x : Int) (r : List Int), rsC x r = true → r.take k = tmK ⟨x + d, d, 0⟩ k → k ≤ r.length → rsC (x + (k : Int) * d) (r.drop k) = true
  | 0, x, r, h, _, _ => by simpa using h
  | k + 1, x, [], _, _, h => by simp at h
  | k + 1, x, y :: r, h, e, hk => by
    rw [tmK_cons, List.take_succ_cons] at e
    injection e with e1 e2
    obtain ⟨h1, h2, h3⟩ := rsC_cons.1 h
    subst e1
    have := rsC_drop k (x + d) r h3 e2 (by simp at hk; omega)
    rw [List.drop_succ_cons]
    push_cast
    rw [Int.add_mul]
    rw [show x + ((k : Int) * d + 1 * d) = x + d + (k : Int) * d by omega]
    exact this
theorem ofR_ok : ∀ (m : Nat) (t : List Int) (lo : Int), t.length ≤ m → t.length ≤ 256 → -1 ≤ lo → rsC lo t = true → rnC (ofR m t) = true ∧ rsum (ofR m t) = t.length ∧ (ofR m t).length ≤ t.length ∧ (∀ q l', ofR m t = q :: l' → ∃ r, t = q.f :: r) ∧ (t ≠ [] → ofR m t ≠ [])
  | 0, [], _, _, _, _, _ => ⟨rfl, rfl, Nat.le_refl _, (fun q l' h => by cases h), fun h => absurd rfl h⟩
  | 0, _ :: _, _, h, _, _, _ => by simp at h
  | m + 1, [], _, _, _, _, _ => ⟨rfl, rfl, Nat.le_refl _, (fun q l' h => by cases h), fun h => absurd rfl h⟩
  | m + 1, [x], lo, _, _, hlo, h => by
    obtain ⟨h1, h2, _⟩ := rsC_cons.1 h
    refine ⟨?_, rfl, by simp [ofR], fun q l' e => ?_, fun _ => by simp [ofR]⟩
    · rw [ofR, rnC]
      unfold rnIs rnForm
      simp
      omega
    · rw [ofR] at e
      injection e with e1 e2
      subst e1
      exact ⟨[], rfl⟩
  | m + 1, x :: y :: r, lo, hm, hl, hlo, h => by
    obtain ⟨h1, h2, h3⟩ := rsC_cons.1 h
    obtain ⟨h4, h5, h6⟩ := rsC_cons.1 h3
    obtain ⟨g1, g2⟩ := goN_spec (y - x) r y
    have gl := goN_le (y - x) r y
    have t1 := rsC_tail _ y r h6 g1 gl
    have t2 := rsC_drop _ y r h6 g1 gl
    rw [ofR]
    generalize goN (y - x) y r = k at *
    have hd : (r.drop k).length = r.length - k := List.length_drop ..
    simp only [List.length_cons] at hm hl
    have hk0 : 0 ≤ (k : Int) * (y - x) := Int.mul_nonneg (by omega) (by omega)
    obtain ⟨i1, i2, i3, i4, i5⟩ := ofR_ok m (r.drop k) (y + (k : Int) * (y - x)) (by omega) (by omega) (by omega) t2
    have el : x + (y - x) * (((k + 2 : Nat) : Int) - 1) = y + (k : Int) * (y - x) := by
      rw [show ((k + 2 : Nat) : Int) - 1 = (k : Int) + 1 by omega, Int.mul_add, Int.mul_comm (y - x) k]
      omega
    have hle : y + (k : Int) * (y - x) ≤ 281474976710656 := by
      rcases t1 with h | h
      · exact h
      · rw [h]; simp; omega
    have hrn : rnIs ⟨x, y - x, ((k + 2 : Nat) : Int)⟩ = true := by
      unfold rnIs
      simp
      omega
    have hrf : ∀ b, rnForm b ⟨x, y - x, ((k + 2 : Nat) : Int)⟩ = true := by
      intro b
      unfold rnForm
      simp only
      rw [el]
      have e1 : ((((k + 2 : Nat) : Int)) == 1) = false := by simp; omega
      have e2 : ((y - x) == 0) = false := by simp; omega
      rw [e1, e2]
      simp
      omega
    refine ⟨?_, ?_, ?_, fun q l' e => ?_, fun _ e => by cases e⟩
    · cases ho : ofR m (r.drop k) with
      | nil => rw [rnC, hrn, hrf]; rfl
      | cons q l' =>
        rw [ho] at i1
        rw [rnC, hrn, hrf, i1]
        obtain ⟨r', hr'⟩ := i4 q l' ho
        have g3 := g2 _ _ hr'
        rw [hr'] at t2
        have t3 := (rsC_cons.1 t2).1
        have : rnGap ⟨x, y - x, ((k + 2 : Nat) : Int)⟩ q = true := by
          unfold rnGap
          simp only
          rw [el]
          simp only [Bool.and_eq_true, decide_eq_true_eq, Bool.not_eq_true', decide_eq_false_iff_not]
          exact ⟨by omega, g3⟩
        rw [this]
        rfl
    · rw [rsum, i2, hd]
      simp only [List.length_cons]
      push_cast
      omega
    · simp only [List.length_cons]
      omega
    · injection e with e1 e2
      subst e1
      exact ⟨_, rfl⟩
/-- runs may be just if their times may be, and they are the runs of these -/
theorem right_iff (l : List Rn) : rnB l = (rsB (tmR l) && decide (ofT (tmR l) = l)) := by
  rw [Bool.eq_iff_iff]
  simp only [Bool.and_eq_true, decide_eq_true_eq]
  constructor
  · intro h
    obtain ⟨h1, h2, h3, h4⟩ := rnB_C.1 h
    rw [tmR_flat h]
    have hm := rnC_mem h3
    have hl := flat_len hm
    refine ⟨?_, ofR_flat _ l h3 (Nat.le_refl _)⟩
    unfold rsB
    simp only [Bool.and_eq_true, decide_eq_true_eq]
    refine ⟨?_, by omega, flat_rs l (-1) h3 fun q l' e => ?_⟩
    · cases l with
      | nil => simp at h1
      | cons q l' =>
        obtain ⟨r, hr⟩ := flat_head (l := l') (hm q List.mem_cons_self)
        rw [hr]
        simp
    · have := rnIs_spec (hm q (by rw [e]; exact List.mem_cons_self))
      omega
  · rintro ⟨h1, h2⟩
    unfold rsB at h1
    simp only [Bool.and_eq_true, decide_eq_true_eq] at h1
    obtain ⟨a1, a2, a3⟩ := h1
    obtain ⟨i1, i2, i3, i4, i5⟩ := ofR_ok (tmR l).length (tmR l) (-1) (Nat.le_refl _) a2 (by omega) a3
    have e : ofR (tmR l).length (tmR l) = l := h2
    have hne : l ≠ [] := by
      rw [← e]
      exact i5 (by intro e0; rw [e0] at a1; simp at a1)
    have hpos : 0 < l.length := List.length_pos_iff.2 hne
    rw [e] at i1 i2 i3
    exact rnB_C.2 ⟨hpos, by omega, i1, by omega⟩
end Go.Proofs.YtmpfbkeamihjbaaGreat

namespace Go.Proofs.YtmpfbkeamihjbaaGreat
open Go.RowKit
attribute [local go_sem] Oper.semAt_some

def prv (t : List Int) : Nat → Int
  | 0 => -1
  | k + 1 => t.getD k 0
theorem rsC_at {t : List Int} {k : Nat} (h : k < t.length) : rsC (prv t k) (t.drop k) = (decide (prv t k < t[k]) && (decide (t[k] ≤ 281474976710656) && rsC (prv t (k + 1)) (t.drop (k + 1)))) := by
  rw [List.drop_eq_getElem_cons h, rsC]
  congr 2
  rw [prv]
  simp [h]
set_option maxRecDepth 100000 in
set_option maxHeartbeats 4000000 in
theorem ref07_Rising (A : Option Addr) (c : Nat) (t : List Int) (w : World) (hR : VR w A c t) :
    Calls Tryz.prog 57 #[.slice A t.length c] w fun e w' => e = .returned (.bool (rsB t)) ∧ Below w.heap.size w w' := by
  by_cases h0 : t.length = 0
  · have d0 : decide ((t.length : Int) < 1) = true := decide_eq_true (by omega)
    have hB : Hid (rsB t = false) := hide (by unfold rsB; rw [h0]; rfl)
    have H0 := hide h0
    clear h0
    go_enter Tryz.func57, Tryz.ntmps57
    go_wp2
    all_goals first
      | (exfalso; have := H0.out; omega)
      | (go_ret; exact ⟨by rw [hB.out] <;> rfl, (b0 w)⟩)
  · by_cases h1 : t.length ≤ 256
    · obtain ⟨g, o, cur, rfl, hg, hc⟩ := hR.mem (by omega)
      have HC := hide hc
      have htop := hR.top
      have hcap := hR.cap
      clear hc hR
      have d0 : decide ((t.length : Int) < 1) = false := decide_eq_false (by omega)
      have d1 : decide (256 < (t.length : Int)) = false := decide_eq_false (by omega)
      have hB : Hid (rsB t = rsC (-1) t) := hide (by
        unfold rsB
        rw [decide_eq_true (show 1 ≤ t.length by omega), decide_eq_true h1]
        rfl)
      go_enter Tryz.func57, Tryz.ntmps57
      obtain ⟨zg_a, zg_b, lg0⟩ := rcell hg
      go_wp2_with fail
      go_loopw [3] (fun vi wr => ∃ k : Nat, vi = .int .i64 k ∧ k ≤ t.length ∧ Hid (rsC (-1) t = rsC (prv t k) (t.drop k) ∧ -1 ≤ prv t k) ∧ wr.heap[g]? = some (.cells cur 2 (0, 0)) ∧ Below w.heap.size w wr) (fun vi _ => t.length - (intOf vi).toNat)
      case atStart => exact ⟨0, rfl, by omega, hide ⟨rfl, by simp [prv]⟩, (hg), (b0 w)⟩
      case round =>
        obtain ⟨k, rfl, hk, hP, j1, hb⟩ := hrel
        by_cases hlt : k < t.length
        · have q1 := HC.out k hlt
          have hst := hide (rsC_at hlt)
          have hp1 : prv t (k + 1) = t[k] := by rw [prv]; simp [hlt]
          have HP1 := hide hp1
          have hlo := hide hP.out.2
          replace hP := hide hP.out.1
          clear hp1
          rcases k with _ | j
          · rw [prv] at hst hP
            generalize t[0] = x at *
            simp only [Nat.add_zero] at q1
            obtain ⟨zg_a, zg_b, lg1⟩ := rcell j1
            by_cases hx0 : x < 0
            · have e0 : decide (x < 0) = true := decide_eq_true hx0
              have hres : Hid (rsB t = false) := hide (by rw [hB.out, hP.out, hst.out, decide_eq_false (by omega)]; rfl)
              go_wp2_with fail
              refine Abs.wp_region_abs (Abs.cls0 _) [0, 1, 2, 3, 4, 5, 6, 7, 8, 9, 10, 11, 12, 13, 14, 15, 16, 17, 18, 19, 20, 21, 22, 23, 24, 25, 26, 27] (by kernel_rfl) (by kernel_rfl) (Below.refl _ _).drew ?_
              repeat (first | (refine Abs.step_pure rfl rfl (fun K hK => ?_); go_simp; (try go_bits); (first | refine hK _ _ ?_ | (simp only [↓IntWalk.iteOmega]; go_simp; (try go_bits); refine hK _ _ ?_)); clear hK K) | (refine Abs.step_load (v := ?_) rfl rfl (by kernel_rfl) rfl (fun w0 hI => ?_) (fun K hK => ?_); rotate_left; (· have z0 := (rcell (kp hI (j1))).1; go_simp; rfl); (simp only [Act.put, List.setIfInBounds_toArray, List.set_cons_zero, List.set_cons_succ]; refine hK _ _ ?_; clear hK K)) | (refine Abs.step_skip rfl rfl (fun K hK => ?_); (simp only [Act.put, List.setIfInBounds_toArray, List.set_cons_zero, List.set_cons_succ]; refine hK _ _ ?_; clear hK K)))
              intro w3 hb3 hx0 hx1 hx2
              clear hx0 hx1 hx2
              simp only [Abs.T_setF, Abs.T_addA, Abs.T_push, Abs.T_start]
              have f_g3 := kp hb3 (j1)
              have hB3 := bB hb hb3
              clear zg_a zg_b
              obtain ⟨zg_a, zg_b, lg3⟩ := rcell f_g3
              go_wp2
              go_ret
              exact ⟨by rw [hres.out] <;> rfl, hB3⟩
            · have e0 : decide (x < 0) = false := decide_eq_false hx0
              by_cases hx1 : 281474976710656 < x
              · skip
                have e1 : decide (281474976710656 < x) = true := decide_eq_true hx1
                have hres : Hid (rsB t = false) := hide (by rw [hB.out, hP.out, hst.out, decide_eq_false (show ¬ x ≤ 281474976710656 by omega)]; simp)
                go_wp2_with fail
                refine Abs.wp_region_abs (Abs.cls0 _) [0, 1, 2, 3, 4, 5, 6, 7, 8, 9, 10, 11, 12, 13, 14, 15, 16, 17, 18, 19, 20, 21, 22, 23, 24, 25, 26, 27] (by kernel_rfl) (by kernel_rfl) (Below.refl _ _).drew ?_
                repeat (first | (refine Abs.step_pure rfl rfl (fun K hK => ?_); go_simp; (try go_bits); (first | refine hK _ _ ?_ | (simp only [↓IntWalk.iteOmega]; go_simp; (try go_bits); refine hK _ _ ?_)); clear hK K) | (refine Abs.step_load (v := ?_) rfl rfl (by kernel_rfl) rfl (fun w0 hI => ?_) (fun K hK => ?_); rotate_left; (· have z0 := (rcell (kp hI (j1))).1; go_simp; rfl); (simp only [Act.put, List.setIfInBounds_toArray, List.set_cons_zero, List.set_cons_succ]; refine hK _ _ ?_; clear hK K)) | (refine Abs.step_skip rfl rfl (fun K hK => ?_); (simp only [Act.put, List.setIfInBounds_toArray, List.set_cons_zero, List.set_cons_succ]; refine hK _ _ ?_; clear hK K)))
                intro w3 hb3 hx0 hx1 hx2
                clear hx0 hx1 hx2
                simp only [Abs.T_setF, Abs.T_addA, Abs.T_push, Abs.T_start]
                have f_g3 := kp hb3 (j1)
                have hB3 := bB hb hb3
                clear zg_a zg_b
                obtain ⟨zg_a, zg_b, lg3⟩ := rcell f_g3
                go_wp2
                go_ret
                exact ⟨by rw [hres.out] <;> rfl, hB3⟩
              · skip
                have e1 : decide (281474976710656 < x) = false := decide_eq_false hx1
                have hP2 : Hid (rsC (-1) t = rsC (prv t 1) (t.drop 1) ∧ -1 ≤ prv t 1) := hide (And.intro (by rw [hP.out, hst.out, decide_eq_true (show -1 < x by omega), decide_eq_true (show x ≤ 281474976710656 by omega)]; rfl) (by rw [HP1.out]; omega))
                go_wp2_with fail
                refine Abs.wp_region_abs (Abs.cls0 _) [0, 1, 2, 3, 4, 5, 6, 7, 8, 9, 10, 11, 12, 13, 14, 15, 16, 17, 18, 19, 20, 21, 22, 23, 24, 25, 26, 27] (by kernel_rfl) (by kernel_rfl) (Below.refl _ _).drew ?_
                repeat (first | (refine Abs.step_pure rfl rfl (fun K hK => ?_); go_simp; (try go_bits); (first | refine hK _ _ ?_ | (simp only [↓IntWalk.iteOmega]; go_simp; (try go_bits); refine hK _ _ ?_)); clear hK K) | (refine Abs.step_load (v := ?_) rfl rfl (by kernel_rfl) rfl (fun w0 hI => ?_) (fun K hK => ?_); rotate_left; (· have z0 := (rcell (kp hI (j1))).1; go_simp; rfl); (simp only [Act.put, List.setIfInBounds_toArray, List.set_cons_zero, List.set_cons_succ]; refine hK _ _ ?_; clear hK K)) | (refine Abs.step_skip rfl rfl (fun K hK => ?_); (simp only [Act.put, List.setIfInBounds_toArray, List.set_cons_zero, List.set_cons_succ]; refine hK _ _ ?_; clear hK K)))
                intro w3 hb3 hx0 hx1 hx2
                clear hx0 hx1 hx2
                simp only [Abs.T_setF, Abs.T_addA, Abs.T_push, Abs.T_start]
                have f_g3 := kp hb3 (j1)
                have hB3 := bB hb hb3
                clear zg_a zg_b
                obtain ⟨zg_a, zg_b, lg3⟩ := rcell f_g3
                go_wp2
                go_roundw
                case rel => exact ⟨1, by go_num, by omega, hP2, (f_g3), hB3⟩
                case measure => simp [intOf]; omega
          · have q2 := HC.out j (by omega)
            have hpj : prv t (j + 1) = t[j] := by rw [prv]; simp [show j < t.length by omega]
            rw [hpj] at hst hP hlo
            clear hpj
            generalize t[j] = y at *
            generalize t[j + 1] = x at *
            obtain ⟨zg_a, zg_b, lg4⟩ := rcell j1
            by_cases hx0 : x < 0
            · have e0 : decide (x < 0) = true := decide_eq_true hx0
              have hres : Hid (rsB t = false) := hide (by
                have := hlo.out
                rw [hB.out, hP.out, hst.out, decide_eq_false (show ¬ y < x by omega)]; rfl)
              go_wp2_with fail
              refine Abs.wp_region_abs (Abs.cls0 _) [0, 1, 2, 3, 4, 5, 6, 7, 8, 9, 10, 11, 12, 13, 14, 15, 16, 17, 18, 19, 20, 21, 22, 23, 24, 25, 26, 27] (by kernel_rfl) (by kernel_rfl) (Below.refl _ _).drew ?_
              repeat (first | (refine Abs.step_pure rfl rfl (fun K hK => ?_); go_simp; (try go_bits); (first | refine hK _ _ ?_ | (simp only [↓IntWalk.iteOmega]; go_simp; (try go_bits); refine hK _ _ ?_)); clear hK K) | (refine Abs.step_load (v := ?_) rfl rfl (by kernel_rfl) rfl (fun w0 hI => ?_) (fun K hK => ?_); rotate_left; (· have z0 := (rcell (kp hI (j1))).1; go_simp; rfl); (simp only [Act.put, List.setIfInBounds_toArray, List.set_cons_zero, List.set_cons_succ]; refine hK _ _ ?_; clear hK K)) | (refine Abs.step_skip rfl rfl (fun K hK => ?_); (simp only [Act.put, List.setIfInBounds_toArray, List.set_cons_zero, List.set_cons_succ]; refine hK _ _ ?_; clear hK K)))
              intro w6 hb6 hx0 hx1 hx2
              clear hx0 hx1 hx2
              simp only [Abs.T_setF, Abs.T_addA, Abs.T_push, Abs.T_start]
              have f_g6 := kp hb6 (j1)
              have hB6 := bB hb hb6
              clear zg_a zg_b
              obtain ⟨zg_a, zg_b, lg6⟩ := rcell f_g6
              go_wp2
              go_ret
              exact ⟨by rw [hres.out] <;> rfl, hB6⟩
            · have e0 : decide (x < 0) = false := decide_eq_false hx0
              by_cases hx1 : 281474976710656 < x
              · skip
                have e1 : decide (281474976710656 < x) = true := decide_eq_true hx1
                have hres : Hid (rsB t = false) := hide (by rw [hB.out, hP.out, hst.out, decide_eq_false (show ¬ x ≤ 281474976710656 by omega)]; simp)
                go_wp2_with fail
                refine Abs.wp_region_abs (Abs.cls0 _) [0, 1, 2, 3, 4, 5, 6, 7, 8, 9, 10, 11, 12, 13, 14, 15, 16, 17, 18, 19, 20, 21, 22, 23, 24, 25, 26, 27] (by kernel_rfl) (by kernel_rfl) (Below.refl _ _).drew ?_
                repeat (first | (refine Abs.step_pure rfl rfl (fun K hK => ?_); go_simp; (try go_bits); (first | refine hK _ _ ?_ | (simp only [↓IntWalk.iteOmega]; go_simp; (try go_bits); refine hK _ _ ?_)); clear hK K) | (refine Abs.step_load (v := ?_) rfl rfl (by kernel_rfl) rfl (fun w0 hI => ?_) (fun K hK => ?_); rotate_left; (· have z0 := (rcell (kp hI (j1))).1; go_simp; rfl); (simp only [Act.put, List.setIfInBounds_toArray, List.set_cons_zero, List.set_cons_succ]; refine hK _ _ ?_; clear hK K)) | (refine Abs.step_skip rfl rfl (fun K hK => ?_); (simp only [Act.put, List.setIfInBounds_toArray, List.set_cons_zero, List.set_cons_succ]; refine hK _ _ ?_; clear hK K)))
                intro w6 hb6 hx0 hx1 hx2
                clear hx0 hx1 hx2
                simp only [Abs.T_setF, Abs.T_addA, Abs.T_push, Abs.T_start]
                have f_g6 := kp hb6 (j1)
                have hB6 := bB hb hb6
                clear zg_a zg_b
                obtain ⟨zg_a, zg_b, lg6⟩ := rcell f_g6
                go_wp2
                go_ret
                exact ⟨by rw [hres.out] <;> rfl, hB6⟩
              · skip
                have e1 : decide (281474976710656 < x) = false := decide_eq_false hx1
                by_cases hxy : x ≤ y
                · have e2 : decide (x ≤ y) = true := decide_eq_true hxy
                  have hres : Hid (rsB t = false) := hide (by rw [hB.out, hP.out, hst.out, decide_eq_false (show ¬ y < x by omega)]; rfl)
                  go_wp2_with fail
                  refine Abs.wp_region_abs (Abs.cls0 _) [0, 1, 2, 3, 4, 5, 6, 7, 8, 9, 10, 11, 12, 13, 14, 15, 16, 17, 18, 19, 20, 21, 22, 23, 24, 25, 26, 27] (by kernel_rfl) (by kernel_rfl) (Below.refl _ _).drew ?_
                  repeat (first | (refine Abs.step_pure rfl rfl (fun K hK => ?_); go_simp; (try go_bits); (first | refine hK _ _ ?_ | (simp only [↓IntWalk.iteOmega]; go_simp; (try go_bits); refine hK _ _ ?_)); clear hK K) | (refine Abs.step_load (v := ?_) rfl rfl (by kernel_rfl) rfl (fun w0 hI => ?_) (fun K hK => ?_); rotate_left; (· have z0 := (rcell (kp hI (j1))).1; go_simp; rfl); (simp only [Act.put, List.setIfInBounds_toArray, List.set_cons_zero, List.set_cons_succ]; refine hK _ _ ?_; clear hK K)) | (refine Abs.step_skip rfl rfl (fun K hK => ?_); (simp only [Act.put, List.setIfInBounds_toArray, List.set_cons_zero, List.set_cons_succ]; refine hK _ _ ?_; clear hK K)))
                  intro w6 hb6 hx0 hx1 hx2
                  clear hx0 hx1 hx2
                  simp only [Abs.T_setF, Abs.T_addA, Abs.T_push, Abs.T_start]
                  have f_g6 := kp hb6 (j1)
                  have hB6 := bB hb hb6
                  clear zg_a zg_b
                  obtain ⟨zg_a, zg_b, lg6⟩ := rcell f_g6
                  go_wp2
                  go_ret
                  exact ⟨by rw [hres.out] <;> rfl, hB6⟩
                · skip
                  have e2 : decide (x ≤ y) = false := decide_eq_false hxy
                  have hP2 : Hid (rsC (-1) t = rsC (prv t (j + 1 + 1)) (t.drop (j + 1 + 1)) ∧ -1 ≤ prv t (j + 1 + 1)) := hide (And.intro (by rw [hP.out, hst.out, decide_eq_true (show y < x by omega), decide_eq_true (show x ≤ 281474976710656 by omega)]; rfl) (by rw [HP1.out]; omega))
                  go_wp2_with fail
                  refine Abs.wp_region_abs (Abs.cls0 _) [0, 1, 2, 3, 4, 5, 6, 7, 8, 9, 10, 11, 12, 13, 14, 15, 16, 17, 18, 19, 20, 21, 22, 23, 24, 25, 26, 27] (by kernel_rfl) (by kernel_rfl) (Below.refl _ _).drew ?_
                  repeat (first | (refine Abs.step_pure rfl rfl (fun K hK => ?_); go_simp; (try go_bits); (first | refine hK _ _ ?_ | (simp only [↓IntWalk.iteOmega]; go_simp; (try go_bits); refine hK _ _ ?_)); clear hK K) | (refine Abs.step_load (v := ?_) rfl rfl (by kernel_rfl) rfl (fun w0 hI => ?_) (fun K hK => ?_); rotate_left; (· have z0 := (rcell (kp hI (j1))).1; go_simp; rfl); (simp only [Act.put, List.setIfInBounds_toArray, List.set_cons_zero, List.set_cons_succ]; refine hK _ _ ?_; clear hK K)) | (refine Abs.step_skip rfl rfl (fun K hK => ?_); (simp only [Act.put, List.setIfInBounds_toArray, List.set_cons_zero, List.set_cons_succ]; refine hK _ _ ?_; clear hK K)))
                  intro w6 hb6 hx0 hx1 hx2
                  clear hx0 hx1 hx2
                  simp only [Abs.T_setF, Abs.T_addA, Abs.T_push, Abs.T_start]
                  have f_g6 := kp hb6 (j1)
                  have hB6 := bB hb hb6
                  clear zg_a zg_b
                  obtain ⟨zg_a, zg_b, lg6⟩ := rcell f_g6
                  go_wp2
                  go_roundw
                  case rel => exact ⟨j + 1 + 1, by go_num, by omega, hP2, (f_g6), hB6⟩
                  case measure => simp [intOf]; omega
        · obtain rfl : k = t.length := by omega
          have hres : Hid (rsB t = true) := hide (by rw [hB.out, hP.out.1, List.drop_length]; rfl)
          go_wp2
          go_ret
          exact ⟨by rw [hres.out] <;> rfl, hb⟩
    · have d0 : decide ((t.length : Int) < 1) = false := decide_eq_false (by omega)
      have d1 : decide (256 < (t.length : Int)) = true := decide_eq_true (by omega)
      have hB : Hid (rsB t = false) := hide (by unfold rsB; rw [decide_eq_false h1]; simp)
      have H0 := hide (And.intro h0 h1)
      clear h0 h1
      go_enter Tryz.func57, Tryz.ntmps57
      go_wp2
      all_goals first
        | (exfalso; have := H0.out; omega)
        | (go_ret; exact ⟨by rw [hB.out] <;> rfl, (b0 w)⟩)
end Go.Proofs.YtmpfbkeamihjbaaGreat

namespace Go.Proofs.YtmpfbkeamihjbaaGreat
open Go.RowKit
attribute [local go_sem] Oper.semAt_some

theorem rsC_bd : ∀ (t : List Int) (lo : Int), -1 ≤ lo → rsC lo t = true → ∀ i (h : i < t.length), 0 ≤ t[i] ∧ t[i] ≤ 281474976710656
  | [], _, _, _, i, h => absurd h (Nat.not_lt_zero _)
  | x :: r, lo, hlo, hr, i, h => by
    obtain ⟨h1, h2, h3⟩ := rsC_cons.1 hr
    match i, h with
    | 0, _ => exact ⟨by show 0 ≤ x; omega, h2⟩
    | i + 1, h => exact rsC_bd r x (by omega) h3 i (by simpa using h)
theorem inR1 {w : World} {g : Nat} {f s n : Int} (h : w.heap[g]? = some (.cells #[.int .i64 f, .int .i64 s, .int .i64 n] 46 (0, 0))) : InR w (some ⟨g, 0, none⟩) [⟨f, s, n⟩] := fun _ => by
  have hz := (rcell h).1
  refine ⟨_, rfl, (rcell h).2.2, fun i hi => ?_⟩
  obtain rfl : i = 0 := by simp at hi; omega
  have hadd : ∀ j, (⟨g, 0, none⟩ : Addr).add j = ⟨g, j, none⟩ := fun j => by unfold Addr.add; split <;> simp_all
  rw [hadd, hadd, hadd, hz, hz, hz]
  exact ⟨rfl, rfl, rfl⟩
theorem ofR_one {m : Nat} {t : List Int} {i : Nat} {x : Int} (hm : (t.drop i).length ≤ m) (hi : i + 1 = t.length) (hx : t[i]'(by omega) = x) : ofR m (t.drop i) = [⟨x, 0, 1⟩] := by
  have e : t.drop i = [x] := by
    rw [List.drop_eq_getElem_cons (by omega), hx, List.drop_of_length_le (by omega)]
  rw [e] at hm ⊢
  obtain ⟨m', rfl⟩ : ∃ m', m = m' + 1 := ⟨m - 1, by simp at hm; omega⟩
  rw [ofR]
theorem ofR_two {m : Nat} {t : List Int} {i : Nat} {x y : Int} (hm : (t.drop i).length ≤ m) (hi : i + 1 < t.length) (hx : t[i]'(by omega) = x) (hy : t[i + 1] = y) :
    ∃ m', (∀ q, q = goN (y - x) y (t.drop (i + 2)) → (t.drop (i + 2 + q)).length ≤ m' ∧ ofR m (t.drop i) = ⟨x, y - x, ((q + 2 : Nat) : Int)⟩ :: ofR m' (t.drop (i + 2 + q))) := by
  have e : t.drop i = x :: y :: t.drop (i + 2) := by
    rw [List.drop_eq_getElem_cons (by omega), List.drop_eq_getElem_cons hi, hx, hy]
  obtain ⟨m', rfl⟩ : ∃ m', m = m' + 1 := ⟨m - 1, by rw [List.length_drop] at hm; omega⟩
  refine ⟨m', fun q hq => ?_⟩
  subst hq
  rw [List.length_drop] at hm ⊢
  refine ⟨by omega, ?_⟩
  rw [e, ofR, List.drop_drop]
theorem goN_at {t : List Int} {d : Int} {j : Nat} {z x' : Int} (h : j + 1 < t.length) (hz : t[j + 1] = z) : goN d x' (t.drop (j + 1)) = if z - x' = d then goN d z (t.drop (j + 1 + 1)) + 1 else 0 := by
  rw [List.drop_eq_getElem_cons h, goN, hz]

set_option maxRecDepth 100000 in
set_option maxHeartbeats 8000000 in
theorem ref07_Of (A : Option Addr) (c : Nat) (t : List Int) (hrs : rsC (-1) t = true) (h1 : 1 ≤ t.length) (h256 : t.length ≤ 256) (w : World) (hR : VR w A c t) :
    Calls Tryz.prog 58 #[.slice A t.length c] w fun e w' => ∃ A' c' n', e = .returned (.slice A' n' c') ∧ Hid (n' = (ofT t).length) ∧ RR w' A' c' (ofT t) ∧ Below w.heap.size w w' := by
  obtain ⟨g, o, cur, rfl, hg, hc⟩ := hR.mem (by omega)
  have HC := hide hc
  have hbd := hide (rsC_bd t (-1) (by omega) hrs)
  have htop := hR.top
  have hcap := hR.cap
  clear hc hR hrs
  go_enter Tryz.func58, Tryz.ntmps58
  obtain ⟨zg_a, zg_b, lg0⟩ := rcell hg
  go_wp2_with fail
  go_loopw [3, 4] (fun vo vi wr => ∃ (i m : Nat) (acc : List Rn) (v0 : Value), v0 = vo ∧ vi = .int .i64 i ∧ i ≤ t.length ∧ acc.length ≤ i ∧ Hid ((t.drop i).length ≤ m ∧ ofT t = acc ++ ofR m (t.drop i)) ∧ OwnR w.heap.size wr v0 acc ∧ wr.heap[g]? = some (.cells cur 2 (0, 0)) ∧ Below w.heap.size w wr) (fun _ vi _ => t.length - (intOf vi).toNat)
  case atStart => exact ⟨0, t.length, [], _, rfl, rfl, by omega, by simp, hide ⟨by simp, rfl⟩, OwnR.nil _ _, (hg), (b0 w)⟩
  case round =>
    obtain ⟨i, m, acc, v0, rfl, rfl, hi, hal, hP, ho, j1, hb⟩ := hrel
    by_cases hlt : i < t.length
    · have q1 := HC.out i hlt
      have b1 := hbd.out i hlt
      by_cases hone : i + 1 = t.length
      · have hres : Hid (ofT t = acc ++ [⟨t[i], 0, 1⟩]) := hide (by rw [hP.out.2, ofR_one hP.out.1 hone rfl])
        generalize t[i] = x at *
        have e0 : ((i : Int) + 1 == (t.length : Int)) = true := by simp; omega
        have hw0 : IntKind.i64.wrap ((i : Int) + 1) = (i : Int) + 1 := IntWalk.i64_in _ (by omega)
        have HONE := hide hone
        clear hone
        obtain ⟨zg_a, zg_b, lg1⟩ := rcell j1
        have kw := hb.size
        have kl : acc.length + [(⟨x, 0, 1⟩ : Rn)].length ≤ 4096 := by simp; omega
        go_wp2_with (at_builtin; refine wpList_pushR rfl _ _ rfl w.heap.size _ acc [⟨x, 0, 1⟩] _ _ rfl rfl (ho.lift (bA (b0 _) _)) (RR.oneI _ ⟨x, 0, 1⟩).inR kl (by simp; omega) ?_; intro v1 w5 ho5 hb5 hs5)
        have hb6 := hb5 _ (bA hb _)
        go_ret
        rw [← hres.out] at ho5
        obtain ⟨A', d, rfl, hr⟩ := ho5.rr
        exact ⟨A', d, _, rfl, hide rfl, hr, hb6⟩
      · have hlt1 : i + 1 < t.length := by omega
        have q2 := HC.out (i + 1) hlt1
        have b2 := hbd.out (i + 1) hlt1
        obtain ⟨m', hm'⟩ := ofR_two hP.out.1 hlt1 rfl rfl
        have HM := hide hm'
        clear hm'
        have hst : Hid (t[i + 1] = t.getD (i + 1) 0) := hide (by simp [hlt1])
        generalize t[i] = x at *
        generalize t[i + 1] = y at *
        have e0 : ((i : Int) + 1 == (t.length : Int)) = false := by simp; omega
        have hw0 : IntKind.i64.wrap ((i : Int) + 1) = (i : Int) + 1 := IntWalk.i64_in _ (by omega)
        have hw1 : IntKind.i64.wrap (y - x) = y - x := IntWalk.i64_in _ (by omega)
        obtain ⟨zg_a, zg_b, lg2⟩ := rcell j1
        go_wp2_with fail
        go_loopw [5] (fun vj wr => ∃ (q j : Nat) (x' : Int), vj = .int .i64 (j : Int) ∧ Hid (j = i + 1 + q) ∧ j < t.length ∧ Hid (t.getD j 0 = x') ∧ Hid (goN (y - x) y (t.drop (i + 2)) = q + goN (y - x) x' (t.drop (j + 1))) ∧ OwnR w.heap.size wr v0 acc ∧ wr.heap[g]? = some (.cells cur 2 (0, 0)) ∧ Below w.heap.size w wr) (fun vj _ => t.length - (intOf vj).toNat)
        case atStart => exact ⟨0, i + 1, y, by go_num, hide rfl, hlt1, hide hst.out.symm, hide (by rw [Nat.zero_add]), ho, (j1), hb⟩
        case round =>
          obtain ⟨q, j, x', rfl, hj, hjl, hx', hG, ho, j1, hb⟩ := hrel
          have q3 := HC.out j hjl
          have b3 := hbd.out j hjl
          have ex : t[j] = x' := by rw [← hx'.out]; simp [hjl]
          rw [ex] at q3 b3
          clear ex
          have hji : i + 1 ≤ j := by have := hj.out; omega
          have hw2 : IntKind.i64.wrap ((j : Int) + 1) = (j : Int) + 1 := IntWalk.i64_in _ (by omega)
          obtain ⟨zg_a, zg_b, lg3⟩ := rcell j1
          by_cases hj1 : j + 1 < t.length
          · have q4 := HC.out (j + 1) hj1
            have b4 := hbd.out (j + 1) hj1
            have hgo := goN_at (d := y - x) (x' := x') hj1 rfl
            have hst2 : Hid (t.getD (j + 1) 0 = t[j + 1]) := hide (by simp [hj1])
            have HGO := hide hgo
            clear hgo
            generalize t[j + 1] = z at *
            have hw3 : IntKind.i64.wrap (z - x') = z - x' := IntWalk.i64_in _ (by omega)
            have d0 : decide ((j : Int) + 1 < (t.length : Int)) = true := decide_eq_true (by omega)
            by_cases hd : z - x' = y - x
            · have dd : (z - x' == y - x) = true := by simp [hd]
              have hG2 : Hid (goN (y - x) y (t.drop (i + 2)) = q + 1 + goN (y - x) z (t.drop (j + 1 + 1))) := hide (by rw [hG.out, HGO.out, if_pos hd]; omega)
              clear hd
              go_wp2_with fail
              refine Abs.wp_region_abs (Abs.cls0 _) [0, 1, 2, 3, 4, 5, 6, 7, 8, 9, 10, 11, 12, 13, 14, 15, 16, 17, 18, 19, 20, 21, 22, 23, 24, 25, 26, 27] (by kernel_rfl) (by kernel_rfl) (Below.refl _ _).drew ?_
              repeat (first | (refine Abs.step_pure rfl rfl (fun K hK => ?_); go_simp; (try go_bits); (first | refine hK _ _ ?_ | (simp only [↓IntWalk.iteOmega]; go_simp; (try go_bits); refine hK _ _ ?_)); clear hK K) | (refine Abs.step_load (v := ?_) rfl rfl (by kernel_rfl) rfl (fun w0 hI => ?_) (fun K hK => ?_); rotate_left; (· have z0 := (rcell (kp hI (j1))).1; go_simp; rfl); (simp only [Act.put, List.setIfInBounds_toArray, List.set_cons_zero, List.set_cons_succ]; refine hK _ _ ?_; clear hK K)) | (refine Abs.step_skip rfl rfl (fun K hK => ?_); (simp only [Act.put, List.setIfInBounds_toArray, List.set_cons_zero, List.set_cons_succ]; refine hK _ _ ?_; clear hK K)))
              intro w5 hb5 hx0 hx1 hx2
              clear hx0 hx1 hx2
              simp only [Abs.T_setF, Abs.T_addA, Abs.T_push, Abs.T_start]
              have f_g5 := kp hb5 (j1)
              have hB5 := bB hb hb5
              clear zg_a zg_b
              obtain ⟨zg_a, zg_b, lg5⟩ := rcell f_g5
              have ho2 := ho.lift hb5
              go_wp2
              go_roundw
              case rel => exact ⟨q + 1, j + 1, z, by go_num, hide (by have := hj.out; omega), hj1, hst2, hG2, by first | exact ho2 | skip, (f_g5), hB5⟩
              case measure => simp [intOf]; omega
            · skip
              have dd : (z - x' == y - x) = false := by simp [hd]
              have hq : q = goN (y - x) y (t.drop (i + 2)) := by rw [hG.out, HGO.out, if_neg hd]; rfl
              have HQ := hide (HM.out q hq)
              clear hd hq
              obtain ⟨u, hu⟩ : ∃ u : Int, u = ((q + 2 : Nat) : Int) := ⟨_, rfl⟩
              have HU := hide hu
              clear hu
              have hres : Hid ((t.drop (j + 1)).length ≤ m' ∧ ofT t = (acc ++ [⟨x, y - x, u⟩]) ++ ofR m' (t.drop (j + 1))) := hide (by
                have e : j + 1 = i + 2 + q := by have := hj.out; omega
                rw [e, hP.out.2, HQ.out.2, HU.out]
                exact ⟨HQ.out.1, by simp⟩)
              have hw4 : IntKind.i64.wrap ((j : Int) - (i : Int)) = u - 1 := by rw [IntWalk.i64_in _ (by omega)]; have := hj.out; have := HU.out; omega
              have hw5 : IntKind.i64.wrap (u - 1 + 1) = u := by rw [IntWalk.i64_in _ (by have := hj.out; have := HU.out; omega)]; omega
              have hw6 : IntKind.i64.wrap u = u := IntWalk.i64_in _ (by have := hj.out; have := HU.out; omega)
              have kl : acc.length + [(⟨x, y - x, u⟩ : Rn)].length ≤ 4096 := by simp; omega
              go_wp2_with fail
              refine Abs.wp_region_abs (Abs.cls0 _) [0, 1, 2, 3, 4, 5, 6, 7, 8, 9, 10, 11, 12, 13, 14, 15, 16, 17, 18, 19, 20, 21, 22, 23, 24, 25, 26, 27] (by kernel_rfl) (by kernel_rfl) (Below.refl _ _).drew ?_
              repeat (first | (refine Abs.step_pure rfl rfl (fun K hK => ?_); go_simp; (try go_bits); (first | refine hK _ _ ?_ | (simp only [↓IntWalk.iteOmega]; go_simp; (try go_bits); refine hK _ _ ?_)); clear hK K) | (refine Abs.step_load (v := ?_) rfl rfl (by kernel_rfl) rfl (fun w0 hI => ?_) (fun K hK => ?_); rotate_left; (· have z0 := (rcell (kp hI (j1))).1; go_simp; rfl); (simp only [Act.put, List.setIfInBounds_toArray, List.set_cons_zero, List.set_cons_succ]; refine hK _ _ ?_; clear hK K)) | (refine Abs.step_skip rfl rfl (fun K hK => ?_); (simp only [Act.put, List.setIfInBounds_toArray, List.set_cons_zero, List.set_cons_succ]; refine hK _ _ ?_; clear hK K)))
              intro w5 hb5 hx0 hx1 hx2
              clear hx0 hx1 hx2
              simp only [Abs.T_setF, Abs.T_addA, Abs.T_push, Abs.T_start]
              have f_g5 := kp hb5 (j1)
              have hB5 := bB hb hb5
              clear zg_a zg_b
              obtain ⟨zg_a, zg_b, lg5⟩ := rcell f_g5
              have ho2 := ho.lift hb5
              go_wp2_with fail
              refine Abs.wp_region_tail (Abs.cls0 _) [0, 1, 2, 3, 4, 5, 6, 7, 8, 9, 10, 11, 12, 13, 14, 15, 16, 17, 18, 19, 20] 21 (by kernel_rfl) (by kernel_rfl) (Below.refl _ _).drew ?_
              repeat (first | (refine Abs.step_pure rfl rfl (fun K hK => ?_); go_simp; (try go_bits); (first | refine hK _ _ ?_ | (simp only [↓IntWalk.iteOmega]; go_simp; (try go_bits); refine hK _ _ ?_)); clear hK K) | (refine Abs.step_load (v := ?_) rfl rfl (by kernel_rfl) rfl (fun w0 hI => ?_) (fun K hK => ?_); rotate_left; (· have z0 := (rcell (kp hI (f_g5))).1; go_simp; rfl); (simp only [Act.put, List.setIfInBounds_toArray, List.set_cons_zero, List.set_cons_succ]; refine hK _ _ ?_; clear hK K)) | (refine Abs.step_skip rfl rfl (fun K hK => ?_); (simp only [Act.put, List.setIfInBounds_toArray, List.set_cons_zero, List.set_cons_succ]; refine hK _ _ ?_; clear hK K)))
              (refine Abs.step_new (f := fun g => .slice (some ⟨g, 0, none⟩) 1 1) (obj := .cells #[.int .i64 x, .int .i64 (y - x), .int .i64 u] 46) rfl rfl rfl rfl (fun w0 => ?_) (fun K hK g_x hv_x hu_x => ?_); (· go_simp; try rfl); (simp only [Act.put, List.setIfInBounds_toArray, List.set_cons_zero, List.set_cons_succ]; refine hK _ _ ?_; clear hK K))
              intro w1 hb1 hF hx1 hx2
              have hlit := (hF 20).2 rfl
              clear hx1 hx2 hF
              simp only [Abs.T_setF, Abs.T_addA, Abs.T_push, Abs.T_start, List.drop_succ_cons, List.drop_zero]
              have ho1 := ho2.lift hb1
              have B1 := bB hB5 hb1
              have j2 := kp hb1 (f_g5)
              clear zg_a zg_b
              refine wpList_pushR rfl _ _ rfl w.heap.size _ acc [⟨x, y - x, u⟩] (some ⟨g_x, 0, none⟩) 1 rfl rfl ho1 (inR1 hlit) kl B1.size ?_
              intro v2 w2 ho2 hb2 hs2
              have B2 := hb2 _ B1
              clear hlit hv_x hu_x ho1
              have lg := (rcell hg).2.2
              have j3 : w2.heap[g]? = some (.cells cur 2 (0, 0)) := (B2.block g lg).trans hg
              have HO2 := hide ho2
              clear ho2 ho
              go_wp2
              go_roundw
              case rel => exact ⟨j + 1, m', acc ++ [⟨x, y - x, u⟩], _, rfl, by go_num, by omega, by simp; omega, hres, HO2.out, j3, B2⟩
              case measure => simp [intOf]; omega
          · skip
            · have d0 : decide ((j : Int) + 1 < (t.length : Int)) = false := decide_eq_false (by omega)
              have hq : q = goN (y - x) y (t.drop (i + 2)) := by rw [hG.out, show t.drop (j + 1) = [] from List.drop_of_length_le (by omega)]; rfl
              have HQ := hide (HM.out q hq)
              clear hq
              obtain ⟨u, hu⟩ : ∃ u : Int, u = ((q + 2 : Nat) : Int) := ⟨_, rfl⟩
              have HU := hide hu
              clear hu
              have hres : Hid ((t.drop (j + 1)).length ≤ m' ∧ ofT t = (acc ++ [⟨x, y - x, u⟩]) ++ ofR m' (t.drop (j + 1))) := hide (by
                have e : j + 1 = i + 2 + q := by have := hj.out; omega
                rw [e, hP.out.2, HQ.out.2, HU.out]
                exact ⟨HQ.out.1, by simp⟩)
              have hw4 : IntKind.i64.wrap ((j : Int) - (i : Int)) = u - 1 := by rw [IntWalk.i64_in _ (by omega)]; have := hj.out; have := HU.out; omega
              have hw5 : IntKind.i64.wrap (u - 1 + 1) = u := by rw [IntWalk.i64_in _ (by have := hj.out; have := HU.out; omega)]; omega
              have hw6 : IntKind.i64.wrap u = u := IntWalk.i64_in _ (by have := hj.out; have := HU.out; omega)
              have kl : acc.length + [(⟨x, y - x, u⟩ : Rn)].length ≤ 4096 := by simp; omega
              go_wp2_with fail
              refine Abs.wp_region_abs (Abs.cls0 _) [0, 1, 2, 3, 4, 5, 6, 7, 8, 9, 10, 11, 12, 13, 14, 15, 16, 17, 18, 19, 20, 21, 22, 23, 24, 25, 26, 27] (by kernel_rfl) (by kernel_rfl) (Below.refl _ _).drew ?_
              repeat (first | (refine Abs.step_pure rfl rfl (fun K hK => ?_); go_simp; (try go_bits); (first | refine hK _ _ ?_ | (simp only [↓IntWalk.iteOmega]; go_simp; (try go_bits); refine hK _ _ ?_)); clear hK K) | (refine Abs.step_load (v := ?_) rfl rfl (by kernel_rfl) rfl (fun w0 hI => ?_) (fun K hK => ?_); rotate_left; (· have z0 := (rcell (kp hI (j1))).1; go_simp; rfl); (simp only [Act.put, List.setIfInBounds_toArray, List.set_cons_zero, List.set_cons_succ]; refine hK _ _ ?_; clear hK K)) | (refine Abs.step_skip rfl rfl (fun K hK => ?_); (simp only [Act.put, List.setIfInBounds_toArray, List.set_cons_zero, List.set_cons_succ]; refine hK _ _ ?_; clear hK K)))
              intro w5 hb5 hx0 hx1 hx2
              clear hx0 hx1 hx2
              simp only [Abs.T_setF, Abs.T_addA, Abs.T_push, Abs.T_start]
              have f_g5 := kp hb5 (j1)
              have hB5 := bB hb hb5
              clear zg_a zg_b
              obtain ⟨zg_a, zg_b, lg5⟩ := rcell f_g5
              have ho2 := ho.lift hb5
              go_wp2_with fail
              refine Abs.wp_region_tail (Abs.cls0 _) [0, 1, 2, 3, 4, 5, 6, 7, 8, 9, 10, 11, 12, 13, 14, 15, 16, 17, 18, 19, 20] 21 (by kernel_rfl) (by kernel_rfl) (Below.refl _ _).drew ?_
              repeat (first | (refine Abs.step_pure rfl rfl (fun K hK => ?_); go_simp; (try go_bits); (first | refine hK _ _ ?_ | (simp only [↓IntWalk.iteOmega]; go_simp; (try go_bits); refine hK _ _ ?_)); clear hK K) | (refine Abs.step_load (v := ?_) rfl rfl (by kernel_rfl) rfl (fun w0 hI => ?_) (fun K hK => ?_); rotate_left; (· have z0 := (rcell (kp hI (f_g5))).1; go_simp; rfl); (simp only [Act.put, List.setIfInBounds_toArray, List.set_cons_zero, List.set_cons_succ]; refine hK _ _ ?_; clear hK K)) | (refine Abs.step_skip rfl rfl (fun K hK => ?_); (simp only [Act.put, List.setIfInBounds_toArray, List.set_cons_zero, List.set_cons_succ]; refine hK _ _ ?_; clear hK K)))
              (refine Abs.step_new (f := fun g => .slice (some ⟨g, 0, none⟩) 1 1) (obj := .cells #[.int .i64 x, .int .i64 (y - x), .int .i64 u] 46) rfl rfl rfl rfl (fun w0 => ?_) (fun K hK g_x hv_x hu_x => ?_); (· go_simp; try rfl); (simp only [Act.put, List.setIfInBounds_toArray, List.set_cons_zero, List.set_cons_succ]; refine hK _ _ ?_; clear hK K))
              intro w1 hb1 hF hx1 hx2
              have hlit := (hF 20).2 rfl
              clear hx1 hx2 hF
              simp only [Abs.T_setF, Abs.T_addA, Abs.T_push, Abs.T_start, List.drop_succ_cons, List.drop_zero]
              have ho1 := ho2.lift hb1
              have B1 := bB hB5 hb1
              have j2 := kp hb1 (f_g5)
              clear zg_a zg_b
              refine wpList_pushR rfl _ _ rfl w.heap.size _ acc [⟨x, y - x, u⟩] (some ⟨g_x, 0, none⟩) 1 rfl rfl ho1 (inR1 hlit) kl B1.size ?_
              intro v2 w2 ho2 hb2 hs2
              have B2 := hb2 _ B1
              clear hlit hv_x hu_x ho1
              have lg := (rcell hg).2.2
              have j3 : w2.heap[g]? = some (.cells cur 2 (0, 0)) := (B2.block g lg).trans hg
              have HO2 := hide ho2
              clear ho2 ho
              go_wp2
              go_roundw
              case rel => exact ⟨j + 1, m', acc ++ [⟨x, y - x, u⟩], _, rfl, by go_num, by omega, by simp; omega, hres, HO2.out, j3, B2⟩
              case measure => simp [intOf]; omega
    · obtain rfl : i = t.length := by omega
      have hfin : Hid (ofT t = acc) := hide (by
        rw [hP.out.2, List.drop_length]
        cases m <;> simp [ofR])
      have HO := hide ho
      clear ho
      go_wp2
      go_ret
      have ho5 := HO.out
      rw [← hfin.out] at ho5
      obtain ⟨A', d, rfl, hr⟩ := ho5.rr
      exact ⟨A', d, _, rfl, hide rfl, hr, hb⟩
end Go.Proofs.YtmpfbkeamihjbaaGreat
