/- The package segcode at this program: tries, Get, Decode. The package segcode at this program: Get, Decode. The package segcode at this program: Decode. -/
import Derived.Test.YtmpfbkeamihjbaaGreatQ5
import Derived.Defers
import Derived.Recover
set_option linter.unusedSimpArgs false
set_option linter.unusedVariables false
namespace Go.Proofs.YtmpfbkeamihjbaaGreat
open Go.RowKit
attribute [local go_sem] Oper.semAt_some

theorem errno_is (x : Int) (w : World) : (Instr.typeAssert (.iface 31 (.int .i64 x)) 20 31 true).run Tryz.prog w = .ok (.tuple #[.int .i64 x, .bool true]) w := by kernel_rfl
set_option maxRecDepth 100000 in
set_option maxHeartbeats 2000000 in
theorem tries_caught (o p : Nat) (x : Int) (w : World) (ho : w.heap[o]? = some (.cells #[.int .i64 0, .slice none 0 0, .int .i64 0, .int .i64 0, .int .i64 0, .int .i64 0, .slice none 0 0, .int .i64 0] 27 (0, 0))) (hp : w.heap[p]? = some (.cells #[.int .i64 0] 31 (0, 0))) (hne : p ≠ o) :
    CallsD Tryz.prog 64 #[.pointer (some ⟨o, 0, none⟩), .pointer (some ⟨p, 0, none⟩)] (.panicking [pn x]) w fun e u' w' =>
      e = .returned (.tuple #[]) ∧ u' = .panicking [{ v := .iface 31 (.int .i64 x), recovered := true }] ∧ w'.heap[o]? = some (.cells #[.int .i64 0, .slice none 0 0, .int .i64 0, .int .i64 0, .int .i64 0, .int .i64 0, .slice none 0 0, .int .i64 0] 27 (0, 0)) ∧ w'.heap[p]? = some (.cells #[.int .i64 x] 31 (0, 0)) ∧ ∀ n, n ≤ o → n ≤ p → Below n w w' := by
  unfold pn
  refine callsD_of_wpS Tryz.func64 rfl fun c₀ cs hu => ?_
  apply wpS_seq
  apply wpS_region
  simp [wpOpsS, go_sem, recoverD, hu, Tryz.ntmps64, Exit.thenS]
  obtain ⟨z1, z2, z3⟩ := rcell ho
  obtain ⟨y1, y2, y3⟩ := rcell hp
  refine wpS_of_wp ?_
  simp only [Array.replicate_succ, Array.replicate_zero, List.push_toArray, List.append_toArray, List.nil_append, List.cons_append, List.setIfInBounds_toArray, List.set_cons_zero, List.set_cons_succ]
  generalize hQ : (fun e a' w' => bodyPostS _ _ _ _ _ e a' _ w') = Q
  have hta := errno_is x
  go_wp2_with fail
  rw [row8 ho]
  generalize hT1 : setRow w o _ = w1
  obtain ⟨hx1, f1⟩ := fin_x (b0 _) ho hT1
  have p1 := kx hx1 hp hne
  rw [row1 p1]
  generalize hT2 : setRow w1 p _ = w2
  obtain ⟨hx2, f2⟩ := fin_x (b0 _) p1 hT2
  have o2 := kx hx2 f1 hne.symm
  subst hQ
  refine ⟨rfl, _, rfl, .tuple #[], by simp [results, Tryz.results64, go_sem], rfl, rfl, ka o2 _, ka f2 _, fun n h1 h2 => ?_⟩
  have e1 : Below n w w1 := hx1.low.mono h1
  have e2 : Below n w1 w2 := hx2.low.mono h2
  have e3 := (bA (b0 w2) (.cells #[.int .i64 0, .slice none 0 0, .int .i64 0, .int .i64 0, .int .i64 0, .int .i64 0, .slice none 0 0, .int .i64 0] 27)).mono (show n ≤ w2.heap.size by have := (rcell f2).2.2; omega)
  exact (e1.trans e2).trans e3
theorem tries_idle (o p : Addr) (w : World) :
    CallsD Tryz.prog 64 #[.pointer (some o), .pointer (some p)] .returning w fun e u' w' => e = .returned (.tuple #[]) ∧ u' = .returning ∧ w' = w := by
  refine callsD_of_wpS Tryz.func64 rfl fun c₀ cs hu => ?_
  apply wpS_seq
  apply wpS_region
  simp [wpOpsS, go_sem, recoverD, hu, Tryz.ntmps64, Exit.thenS]
  refine wpS_of_wp ?_
  simp only [Array.replicate_succ, Array.replicate_zero, List.push_toArray, List.append_toArray, List.nil_append, List.cons_append, List.setIfInBounds_toArray, List.set_cons_zero, List.set_cons_succ]
  generalize hQ : (fun e a' w' => bodyPostS _ _ _ _ _ e a' _ w') = Q
  go_wp2_with fail
  subst hQ
  exact ⟨rfl, _, rfl, .tuple #[], by simp [results, Tryz.results64, go_sem], rfl, by first | exact hu | rfl, rfl⟩

/-- where tries leaves by a panic that its closure catches -/
theorem tries_out {o p : Nat} {x : Int} {tmps : Array Value} {w : World} {R : Ending → World → Prop} (ho : w.heap[o]? = some (.cells #[.int .i64 0, .slice none 0 0, .int .i64 0, .int .i64 0, .int .i64 0, .int .i64 0, .slice none 0 0, .int .i64 0] 27 (0, 0))) (hp : w.heap[p]? = some (.cells #[.int .i64 0] 31 (0, 0))) (hne : p ≠ o)
    (t2 : tmps[2]? = some (.pointer (some ⟨o, 0, none⟩))) (t3 : tmps[3]? = some (.pointer (some ⟨p, 0, none⟩))) (hR : ∀ w', (∀ n, n ≤ o → n ≤ p → Below n w w') → R (.returned (.tuple #[.agg #[.int .i64 0, .slice none 0 0, .int .i64 0, .int .i64 0, .int .i64 0, .int .i64 0, .slice none 0 0, .int .i64 0], .int .i64 x])) w') :
    Leaves Tryz.prog Tryz.f42 tmps R [{ target := .fn (.func 64) #[.pointer (some ⟨o, 0, none⟩), .pointer (some ⟨p, 0, none⟩)], args := #[] }] (.panicking [pn x]) w := by
  refine leaves_cons (f := 64) (args := #[.pointer (some ⟨o, 0, none⟩), .pointer (some ⟨p, 0, none⟩)]) (by simp) (by simp [go_sem]) ?_
  refine (tries_caught o p x w ho hp hne).mono ?_
  rintro e u' w'' ⟨rfl, rfl, h1, h2, h3⟩
  have y1 := (rcell h1).1
  have y2 := (rcell h2).1
  have e0 : (results Tryz.f42 tmps).run Tryz.prog w'' = .ok (.tuple #[.agg #[.int .i64 0, .slice none 0 0, .int .i64 0, .int .i64 0, .int .i64 0, .int .i64 0, .slice none 0 0, .int .i64 0], .int .i64 x]) w'' := by
    simp [results, Tryz.results42, go_sem, t2, t3, y1, y2]
  simp [Leaves, settle]
  exact ⟨_, e0, hR _ h3⟩
theorem tries_back {o p : Nat} {v : Value} {tmps : Array Value} {w : World} {R : Ending → World → Prop}
    (hres : (results Tryz.f42 tmps).run Tryz.prog w = .ok v w) (hR : R (.returned v) w) :
    Leaves Tryz.prog Tryz.f42 tmps R [{ target := .fn (.func 64) #[.pointer (some ⟨o, 0, none⟩), .pointer (some ⟨p, 0, none⟩)], args := #[] }] .returning w := by
  refine leaves_cons (f := 64) (args := #[.pointer (some ⟨o, 0, none⟩), .pointer (some ⟨p, 0, none⟩)]) (by simp) (by simp [go_sem]) ?_
  refine (tries_idle ⟨o, 0, none⟩ ⟨p, 0, none⟩ w).mono ?_
  rintro e u' w'' ⟨rfl, rfl, rfl⟩
  simp [Leaves, settle]
  exact ⟨_, hres, hR⟩

section
variable (g : Nat) (B : Option Addr) (c : Nat) (b : List Int) (hb : Byt b) (at' : Nat)
/-- how tries ends -/
def RPt (r : Except Int (Sg × Nat)) (w : World) (e : Ending) (w' : World) : Prop :=
  match r with
  | .ok (s, nx) => ∃ RA rc n VA vc m, e = .returned (.tuple #[.agg #[.int .i64 s.kd, .slice RA n rc, .int .i64 s.q.A, .int .i64 s.q.R, .int .i64 s.q.N, .int .i64 s.q.D, .slice VA m vc, .int .i64 s.er], .int .i64 0]) ∧ Hid (n = s.l.length ∧ m = s.vs.length ∧ UpA w.heap.size RA ∧ UpA w.heap.size VA) ∧ RR w' RA rc s.l ∧ VR w' VA vc s.vs ∧ Exc g w w' ∧ Rdr g B c b nx w'
  | .error z => e = .returned (.tuple #[.agg #[.int .i64 0, .slice none 0 0, .int .i64 0, .int .i64 0, .int .i64 0, .int .i64 0, .slice none 0 0, .int .i64 0], .int .i64 z]) ∧ Exc g w w'
set_option maxRecDepth 100000 in
set_option maxHeartbeats 4000000 in
include hb in
theorem code_tries (w : World) (h : Rdr g B c b at' w) :
    Calls Tryz.prog 42 #[.func (Fn.func 43) #[.pointer (some ⟨g, 0, none⟩)] #[]] w (RPt g B c b (pSeg b at') w) := by
  have hmf : ∀ (fn : Fn) (first cap : Array Value) (w : World), (Instr.makeFunc fn first cap).run Tryz.prog w = .ok (.func fn first cap) w := fun _ _ _ _ => rfl
  have lgw := h.lt
  go_enter_defers Tryz.func42, Tryz.ntmps42
  go_wp2_with fail
  refine (r_seg g B c b hb at' _ (h.below (bA (bA (b0 _) (.cells #[.int .i64 0, .slice none 0 0, .int .i64 0, .int .i64 0, .int .i64 0, .int .i64 0, .slice none 0 0, .int .i64 0] 27)) (.cells #[.int .i64 0] 31)))).mono ?_
  rintro e w1 hp1
  cases e1 : pSeg b at' with
  | error x =>
    rw [e1] at hp1
    obtain ⟨rfl, hx1⟩ := hp1
    have hres : Hid (pSeg b at' = .error x) := hide e1
    clear e1
    have hB1 := (xX (xA (xA (x0 g w (Nat.le_of_lt h.lt)) (.cells #[.int .i64 0, .slice none 0 0, .int .i64 0, .int .i64 0, .int .i64 0, .int .i64 0, .slice none 0 0, .int .i64 0] 27)) (.cells #[.int .i64 0] 31)) hx1 (by omega))
    have fo := kx hx1 (ka (na w #[.int .i64 0, .slice none 0 0, .int .i64 0, .int .i64 0, .int .i64 0, .int .i64 0, .slice none 0 0, .int .i64 0] 27) (.cells #[.int .i64 0] 31)) (by omega)
    have fp := kx hx1 (na1 w (.cells #[.int .i64 0, .slice none 0 0, .int .i64 0, .int .i64 0, .int .i64 0, .int .i64 0, .slice none 0 0, .int .i64 0] 27) #[.int .i64 0] 31) (by omega)
    go_wp2_with fail
    refine tries_out fo fp (by omega) rfl rfl fun w' hb' => ?_
    have hbb := hb' w.heap.size (by omega) (by omega)
    exact ⟨rfl, xG hB1 hbb hbb.size⟩
  | ok p =>
    obtain ⟨⟨kd, l, ⟨qA, qR, qN, qD⟩, vs, er⟩, nx⟩ := p
    rw [e1] at hp1
    obtain ⟨RA, rc, ln, VA, vc, lm, rfl, hn, rn_l1, rv, hx1, rn_W1⟩ := hp1
    have f_o1 := kx hx1 (ka (na w #[.int .i64 0, .slice none 0 0, .int .i64 0, .int .i64 0, .int .i64 0, .int .i64 0, .slice none 0 0, .int .i64 0] 27) (.cells #[.int .i64 0] 31)) (by omega)
    have f_p1 := kx hx1 (na1 w (.cells #[.int .i64 0, .slice none 0 0, .int .i64 0, .int .i64 0, .int .i64 0, .int .i64 0, .slice none 0 0, .int .i64 0] 27) #[.int .i64 0] 31) (by omega)
    have hB1 := xX (xA (xA (x0 g w (Nat.le_of_lt h.lt)) (.cells #[.int .i64 0, .slice none 0 0, .int .i64 0, .int .i64 0, .int .i64 0, .int .i64 0, .slice none 0 0, .int .i64 0] 27)) (.cells #[.int .i64 0] 31)) hx1 (by omega)
    obtain ⟨zo_a, zo_b, lo1⟩ := rcell f_o1
    obtain ⟨zp_a, zp_b, lp1⟩ := rcell f_p1
    replace hn := hide (And.intro hn.out.1 (And.intro hn.out.2.1 (And.intro (hn.out.2.2.1.mono (B' := w.heap.size) (by simp; omega)) (hn.out.2.2.2.mono (B' := w.heap.size) (by simp; omega)))))
    go_wp2_with fail
    rw [row8 f_o1]
    generalize hT2 : setRow _ _ _ = w2
    obtain ⟨hx2, f_o2⟩ := fin_x (b0 _) f_o1 hT2
    clear hT2
    have f_p2 := kx hx2 (f_p1) (by omega)
    have rd_W2 := rn_W1.exc hx2 (f_o1) (by decide)
    have rd_l2 := rn_l1.exc hx2 (f_o1) (by decide)
    have rd_v2 := rv.exc hx2 (f_o1) (by decide)
    have hB2 := xX hB1 hx2 (by omega)
    clear zo_a zo_b zp_a zp_b
    obtain ⟨zp_a, zp_b, lp2⟩ := rcell f_p2
    obtain ⟨zo_a, zo_b, lo2⟩ := rcell f_o2
    rw [row1 f_p2]
    generalize hT3 : setRow _ _ _ = w3
    obtain ⟨hx3, f_p3⟩ := fin_x (b0 _) f_p2 hT3
    clear hT3
    have f_o3 := kx hx3 (f_o2) (by omega)
    have rd_W3 := rd_W2.exc hx3 (f_p2) (by decide)
    have rd_l3 := rd_l2.exc hx3 (f_p2) (by decide)
    have rd_v3 := rd_v2.exc hx3 (f_p2) (by decide)
    have hB3 := xX hB2 hx3 (by omega)
    clear zo_a zo_b zp_a zp_b
    obtain ⟨zo_a, zo_b, lo3⟩ := rcell f_o3
    obtain ⟨zp_a, zp_b, lp3⟩ := rcell f_p3
    have zE := (rcell (f_o3)).1
    have yE := (rcell (f_p3)).1
    refine tries_back (v := .tuple #[.agg #[.int .i64 kd, .slice RA ln rc, .int .i64 qA, .int .i64 qR, .int .i64 qN, .int .i64 qD, .slice VA lm vc, .int .i64 er], .int .i64 0]) (by simp [results, Tryz.results42, go_sem, zE, yE]) ?_
    unfold RPt
    rw [e1]
    exact ⟨RA, rc, ln, VA, vc, lm, rfl, hn, rd_l3, rd_v3, hB3, rd_W3⟩
end
end Go.Proofs.YtmpfbkeamihjbaaGreat

namespace Go.Proofs.YtmpfbkeamihjbaaGreat
open Go.RowKit
attribute [local go_sem] Oper.semAt_some

theorem pU_err {b : List Int} {m at' : Nat} {x : Int} (h : pU b m at' = .error x) : x = 6 ∨ x = 7 := by
  unfold pU at h
  split at h
  · split at h
    · cases h
    · injection h with h; exact .inr h.symm
  · next e => injection h with h; subst h; exact gU_err e
theorem pK_err {b : List Int} {at' : Nat} {x : Int} (h : pK b at' = .error x) : x = 6 ∨ x = 7 := by
  unfold pK at h
  split at h
  · split at h
    · cases h
    · injection h with h; exact .inr h.symm
  · injection h with h; exact .inl h.symm
theorem pR1_err {b : List Int} {f : Int} {at' : Nat} {x : Int} (h : pR1 b f at' = .error x) : x = 6 ∨ x = 7 := by
  unfold pR1 at h
  split at h
  · next e => injection h with h; subst h; exact pU_err e
  · split at h
    · next e => injection h with h; subst h; exact pU_err e
    · split at h
      · injection h with h; exact .inr h.symm
      · split at h
        · split at h
          · cases h
          · injection h with h; exact .inr h.symm
        · split at h
          · next e => injection h with h; subst h; exact pU_err e
          · split at h
            · cases h
            · injection h with h; exact .inr h.symm
theorem pRs_err {b : List Int} : ∀ (m : Nat) (f : Int) (at' : Nat) (x : Int), pRs b m f at' = .error x → x = 6 ∨ x = 7
  | 0, _, _, _, h => by cases h
  | m + 1, f, at', x, h => by
    rw [pRs] at h
    split at h
    · next e => injection h with h; subst h; exact pR1_err e
    · split at h
      · next e => injection h with h; subst h; exact pRs_err m _ _ _ e
      · cases h
theorem pRuns_err {b : List Int} {at' : Nat} {x : Int} (h : pRuns b at' = .error x) : x = 6 ∨ x = 7 := by
  unfold pRuns at h
  split at h
  · next e => injection h with h; subst h; exact pU_err e
  · split at h
    · injection h with h; exact .inr h.symm
    · split at h
      · next e => injection h with h; subst h; exact pRs_err _ _ _ _ e
      · split at h
        · cases h
        · injection h with h; exact .inr h.symm
theorem pLA_err {b : List Int} {R N D : Int} {at' : Nat} {x : Int} (h : pLA b R N D at' = .error x) : x = 6 ∨ x = 7 := by
  unfold pLA at h
  split at h
  · next e => injection h with h; subst h; exact pS_err e
  · cases h
theorem pLN_err {b : List Int} {R : Int} {at' : Nat} {x : Int} (h : pLN b R at' = .error x) : x = 6 ∨ x = 7 := by
  unfold pLN at h
  split at h
  · next e => injection h with h; subst h; exact pS_err e
  · split at h
    · next e => injection h with h; subst h; exact pU_err e
    · exact pLA_err h
theorem pL_err {b : List Int} {kd : Int} {at' : Nat} {x : Int} (h : pL b kd at' = .error x) : x = 6 ∨ x = 7 := by
  unfold pL at h
  split at h
  · split at h
    · next e => injection h with h; subst h; exact pU_err e
    · exact pLN_err h
  · split at h
    · exact pLN_err h
    · split at h
      · exact pLA_err h
      · cases h
theorem pVs_err {b : List Int} : ∀ (m : Nat) (v : Int) (at' : Nat) (x : Int), pVs b m v at' = .error x → x = 6 ∨ x = 7
  | 0, _, _, _, h => by cases h
  | m + 1, v, at', x, h => by
    rw [pVs] at h
    split at h
    · next e => injection h with h; subst h; exact pS_err e
    · split at h
      · split at h
        · next e => injection h with h; subst h; exact pVs_err m _ _ _ e
        · cases h
      · injection h with h; exact .inr h.symm
theorem pSeg_err {b : List Int} {at' : Nat} {x : Int} (h : pSeg b at' = .error x) : x = 6 ∨ x = 7 := by
  unfold pSeg at h
  split at h
  · next e => injection h with h; subst h; exact pK_err e
  · split at h
    · next e => injection h with h; subst h; exact pU_err e
    · split at h
      · next e => injection h with h; subst h; exact pRuns_err e
      · split at h
        · next e => injection h with h; subst h; exact pL_err e
        · split at h
          · next e =>
            injection h with h
            subst h
            split at e
            · exact pVs_err _ _ _ _ e
            · cases e
          · split at h
            · cases h
            · injection h with h; exact .inr h.symm

/-- the segment whose bytes begin at a place, and the place behind them -/
def gSeg (b : List Int) (at' : Int) : Except Int (Sg × Nat) := if at' < 0 ∨ (b.length : Int) < at' then .error 2 else pSeg b at'.toNat
/-- how Get ends -/
def RPg (r : Except Int (Sg × Nat)) (w : World) (e : Ending) (w' : World) : Prop :=
  match r with
  | .ok (s, nx) => ∃ RA rc n VA vc m, e = .returned (.tuple #[.agg #[.int .i64 s.kd, .slice RA n rc, .int .i64 s.q.A, .int .i64 s.q.R, .int .i64 s.q.N, .int .i64 s.q.D, .slice VA m vc, .int .i64 s.er], .int .i64 (nx : Int), .int .i64 0]) ∧ Hid (n = s.l.length ∧ m = s.vs.length ∧ UpA w.heap.size RA ∧ UpA w.heap.size VA) ∧ RR w' RA rc s.l ∧ VR w' VA vc s.vs ∧ Below w.heap.size w w'
  | .error z => e = .returned (.tuple #[.agg #[.int .i64 0, .slice none 0 0, .int .i64 0, .int .i64 0, .int .i64 0, .int .i64 0, .slice none 0 0, .int .i64 0], .int .i64 0, .int .i64 z]) ∧ Below w.heap.size w w'

section
variable (B : Option Addr) (c : Nat) (b : List Int) (hb : Byt b)
set_option maxRecDepth 100000 in
set_option maxHeartbeats 4000000 in
theorem get_arg (at' : Int) (h : at' < 0 ∨ (b.length : Int) < at') (w : World) :
    Calls Tryz.prog 17 #[.slice B b.length c, .int .i64 at'] w (RPg (gSeg b at') w) := by
  have hres : Hid (gSeg b at' = .error 2) := hide (if_pos h)
  by_cases h0 : at' < 0
  · have d0 : decide (at' < 0) = true := decide_eq_true h0
    go_enter Tryz.func17, Tryz.ntmps17
    go_wp2
    have zE := (rcell (na w #[.int .i64 0, .slice none 0 0, .int .i64 0, .int .i64 0, .int .i64 0, .int .i64 0, .slice none 0 0, .int .i64 0] 27)).1
    have zL := (rcell (na w #[.int .i64 0, .slice none 0 0, .int .i64 0, .int .i64 0, .int .i64 0, .int .i64 0, .slice none 0 0, .int .i64 0] 27)).2.2
    refine bodyPost_ret (by simp [results, Tryz.results17, go_sem, zE, zL]; try rfl) rfl ?_
    unfold RPg
    rw [hres.out]
    exact ⟨rfl, (bA (b0 w) (.cells #[.int .i64 0, .slice none 0 0, .int .i64 0, .int .i64 0, .int .i64 0, .int .i64 0, .slice none 0 0, .int .i64 0] 27))⟩
  · have d0 : decide (at' < 0) = false := decide_eq_false h0
    have d1 : decide ((b.length : Int) < at') = true := decide_eq_true (by omega)
    go_enter Tryz.func17, Tryz.ntmps17
    go_wp2
    have zE := (rcell (na w #[.int .i64 0, .slice none 0 0, .int .i64 0, .int .i64 0, .int .i64 0, .int .i64 0, .slice none 0 0, .int .i64 0] 27)).1
    have zL := (rcell (na w #[.int .i64 0, .slice none 0 0, .int .i64 0, .int .i64 0, .int .i64 0, .int .i64 0, .slice none 0 0, .int .i64 0] 27)).2.2
    refine bodyPost_ret (by simp [results, Tryz.results17, go_sem, zE, zL]; try rfl) rfl ?_
    unfold RPg
    rw [hres.out]
    exact ⟨rfl, (bA (b0 w) (.cells #[.int .i64 0, .slice none 0 0, .int .i64 0, .int .i64 0, .int .i64 0, .int .i64 0, .slice none 0 0, .int .i64 0] 27))⟩
set_option maxRecDepth 100000 in
set_option maxHeartbeats 4000000 in
include hb in
theorem get_in (at' : Nat) (h : at' ≤ b.length) (w : World) (hy : YR w B c b) :
    Calls Tryz.prog 17 #[.slice B b.length c, .int .i64 (at' : Int)] w (RPg (pSeg b at') w) := by
  have hmf : ∀ (fn : Fn) (first cap : Array Value) (w : World), (Instr.makeFunc fn first cap).run Tryz.prog w = .ok (.func fn first cap) w := fun _ _ _ _ => rfl
  have d0 : decide ((at' : Int) < 0) = false := by simp
  have d1 : decide ((b.length : Int) < (at' : Int)) = false := by simp; omega
  go_enter Tryz.func17, Tryz.ntmps17
  go_wp2_with fail
  generalize hw2 : (World.alloc _ (.cells #[.int .i64 (at' : Int), .slice B b.length c] 77)) = w2
  have jW : Rdr (w.heap.size + 1) B c b at' w2 := by
    rw [← hw2]
    exact ⟨na1 w _ _ _, hy.below (bA (bA (b0 w) _) _), h⟩
  have B2 : Below w.heap.size w w2 := by rw [← hw2]; exact bA (bA (b0 w) _) _
  have f_o2 : w2.heap[w.heap.size]? = some (.cells #[.int .i64 0, .slice none 0 0, .int .i64 0, .int .i64 0, .int .i64 0, .int .i64 0, .slice none 0 0, .int .i64 0] 27 (0, 0)) := by rw [← hw2]; exact ka (na w _ _) _
  clear hw2
  have lg2 := jW.lt
  refine (code_tries (w.heap.size + 1) B c b hb at' _ jW).mono ?_
  rintro e w3 hp
  cases e1 : pSeg b at' with
  | error x =>
    rw [e1] at hp
    obtain ⟨rfl, hx⟩ := hp
    have hxx := pSeg_err e1
    have dx : (x != 0) = true := by simp; omega
    have hres : Hid (pSeg b at' = .error x) := hide e1
    have f_o3 := kx hx f_o2 (by omega)
    have BB3 := bX B2 hx (by omega)
    clear e1 hxx
    go_simp
    iterate 24 (try go_step)
    generalize hw4 : World.alloc w3 _ = w4
    have f_o4 : w4.heap[w.heap.size]? = some (.cells #[.int .i64 0, .slice none 0 0, .int .i64 0, .int .i64 0, .int .i64 0, .int .i64 0, .slice none 0 0, .int .i64 0] 27 (0, 0)) := by rw [← hw4]; exact ka f_o3 _
    have BB4 : Below w.heap.size w w4 := by rw [← hw4]; exact bA BB3 _
    clear hw4 f_o3 f_o2 BB3 B2 jW hx
    obtain ⟨zo_a, zo_b, lo1⟩ := rcell f_o4
    go_wp2_with fail
    rw [row8 (f_o4)]
    generalize hT : setRow _ _ _ = w5
    obtain ⟨hx4, f4⟩ := fin_x (b0 _) (f_o4) hT
    clear hT
    have zE := (rcell f4).1
    have zL := (rcell f4).2.2
    refine bodyPost_ret (by simp [results, Tryz.results17, go_sem, zE, zL]; try rfl) rfl ?_
    unfold RPg
    rw [hres.out]
    exact ⟨rfl, bX BB4 hx4 (by omega)⟩
  | ok p =>
    obtain ⟨⟨kd, l, ⟨qA, qR, qN, qD⟩, vs, er⟩, nx⟩ := p
    rw [e1] at hp
    obtain ⟨RA, rc, ln, VA, vc, lm, rfl, hn, rl3, rv3, hx, jW3⟩ := hp
    replace hn := hide (And.intro hn.out.1 (And.intro hn.out.2.1 (And.intro (hn.out.2.2.1.mono B2.size) (hn.out.2.2.2.mono B2.size))))
    have hres : Hid (pSeg b at' = .ok (⟨kd, l, ⟨qA, qR, qN, qD⟩, vs, er⟩, nx)) := hide e1
    have f_o3 := kx hx f_o2 (by omega)
    have BB3 := bX B2 hx (by omega)
    have f_g3 := jW3.hg
    clear e1
    simp only
    have ls3 : w2.heap.size ≤ w3.heap.size := hx.size
    obtain ⟨zo_a, zo_b, lo3⟩ := rcell f_o3
    go_simp
    iterate 24 (try go_step)
    generalize hw4 : World.alloc w3 _ = w4
    have f_o4 : w4.heap[w.heap.size]? = some (.cells #[.int .i64 0, .slice none 0 0, .int .i64 0, .int .i64 0, .int .i64 0, .int .i64 0, .slice none 0 0, .int .i64 0] 27 (0, 0)) := by rw [← hw4]; exact ka f_o3 _
    have f_g4 : w4.heap[w.heap.size + 1]? = some (.cells #[.int .i64 (nx : Int), .slice B b.length c] 77 (0, 0)) := by rw [← hw4]; exact ka f_g3 _
    have f_s4 : w4.heap[w3.heap.size]? = some (.cells #[.int .i64 kd, .slice RA ln rc, .int .i64 qA, .int .i64 qR, .int .i64 qN, .int .i64 qD, .slice VA lm vc, .int .i64 er] 27 (0, 0)) := by rw [← hw4]; exact na w3 _ _
    have BB4 : Below w.heap.size w w4 := by rw [← hw4]; exact bA BB3 _
    have rl4 := rl3.below (bA (b0 w3) (.cells #[.int .i64 kd, .slice RA ln rc, .int .i64 qA, .int .i64 qR, .int .i64 qN, .int .i64 qD, .slice VA lm vc, .int .i64 er] 27))
    have rv4 := rv3.below (bA (b0 w3) (.cells #[.int .i64 kd, .slice RA ln rc, .int .i64 qA, .int .i64 qR, .int .i64 qN, .int .i64 qD, .slice VA lm vc, .int .i64 er] 27))
    first | rw [hw4] at rl4 rv4 | skip
    clear hw4 f_o3 f_g3 f_o2 BB3 B2 jW hx jW3 zo_a zo_b lo3 rl3 rv3
    obtain ⟨zo_a, zo_b, lo2⟩ := rcell f_o4
    obtain ⟨zg_a, zg_b, lg3⟩ := rcell f_g4
    obtain ⟨zs_a, zs_b, ls4⟩ := rcell f_s4
    go_wp2_with fail
    refine Abs.wp_region_abs (Abs.cls _ (fun k => k = w.heap.size)) [0, 1, 2, 3, 4, 5, 6, 7, 8] (by kernel_rfl) (by kernel_rfl) (Below.refl _ _).drew ?_
    repeat (first | (refine Abs.step_pure rfl rfl (fun K hK => ?_); go_simp; (try go_bits); (first | refine hK _ _ ?_ | (simp only [↓IntWalk.iteOmega]; go_simp; (try go_bits); refine hK _ _ ?_)); clear hK K) | (refine Abs.step_late (v := ?_) rfl rfl (fun w0 hI => ?_) (fun K hK => ?_); rotate_left; (· have z0 := (rcell (kj hI (f_g4) (by omega))).1; have z1 := (rcell (kj hI (f_s4) (by omega))).1; go_simp; rfl); (simp only [Act.put, List.setIfInBounds_toArray, List.set_cons_zero, List.set_cons_succ]; refine hK _ _ ?_; clear hK K)) | (refine Abs.step_skip rfl rfl (fun K hK => ?_); (simp only [Act.put, List.setIfInBounds_toArray, List.set_cons_zero, List.set_cons_succ]; refine hK _ _ ?_; clear hK K)))
    (refine Abs.step_store (T := ?_) rfl rfl rfl (fun w0 hI hF hU => ?_) (fun w0 hI hU hJ => ?_) (fun K hK => ?_); rotate_left; (· have hR := kp hI (f_o4); have hg0 := (rcell hR).1; have hg1 := (rcell hR).2.1; simp only [Abs.T_setF, Abs.T_addA, Abs.T_push, Abs.T_start]; go_simp; exact row8 hR _ _ _ _ _ _ _ _); (· first | exact trivial | exact js hJ rfl _ | exact js hJ (Or.inl rfl) _ | exact js hJ (Or.inr rfl) _); (simp only [Act.put, List.setIfInBounds_toArray, List.set_cons_zero, List.set_cons_succ]; refine hK _ _ ?_; clear hK K))
    repeat (first | (refine Abs.step_pure rfl rfl (fun K hK => ?_); go_simp; (try go_bits); (first | refine hK _ _ ?_ | (simp only [↓IntWalk.iteOmega]; go_simp; (try go_bits); refine hK _ _ ?_)); clear hK K) | (refine Abs.step_late (v := ?_) rfl rfl (fun w0 hI => ?_) (fun K hK => ?_); rotate_left; (· have z0 := (rcell (kj hI (f_g4) (by omega))).1; have z1 := (rcell (kj hI (f_s4) (by omega))).1; go_simp; rfl); (simp only [Act.put, List.setIfInBounds_toArray, List.set_cons_zero, List.set_cons_succ]; refine hK _ _ ?_; clear hK K)) | (refine Abs.step_skip rfl rfl (fun K hK => ?_); (simp only [Act.put, List.setIfInBounds_toArray, List.set_cons_zero, List.set_cons_succ]; refine hK _ _ ?_; clear hK K)))
    intro w0 hI hF hx1 hx2
    clear hx1 hx2 hF
    simp only [Abs.T_push]
    generalize hT6 : setRow w0 _ _ = w6
    obtain ⟨hx6, f_o6⟩ := fin_x hI (f_o4) hT6
    clear hT6 hI w0
    have f_g6 := kx hx6 (f_g4) (by omega)
    have f_s6 := kx hx6 (f_s4) (by omega)
    have rd_l6 := rl4.exc hx6 (f_o4) (by decide)
    have rd_v6 := rv4.exc hx6 (f_o4) (by decide)
    have hB6 := bX BB4 hx6 (by omega)
    clear zg_a zg_b zo_a zo_b zs_a zs_b
    obtain ⟨zg_a, zg_b, lg6⟩ := rcell f_g6
    obtain ⟨zs_a, zs_b, ls6⟩ := rcell f_s6
    obtain ⟨zo_a, zo_b, lo6⟩ := rcell f_o6
    go_wp2_with fail
    have zE := (rcell (f_o6)).1
    have zL := (rcell (f_o6)).2.2
    refine bodyPost_ret (by simp [results, Tryz.results17, go_sem, zE, zL]; try rfl) rfl ?_
    unfold RPg
    rw [hres.out]
    exact ⟨RA, rc, ln, VA, vc, lm, rfl, hn, rd_l6, rd_v6, hB6⟩
end
end Go.Proofs.YtmpfbkeamihjbaaGreat

namespace Go.Proofs.YtmpfbkeamihjbaaGreat
open Go.RowKit
attribute [local go_sem] Oper.semAt_some

/-- the segment that has just these bytes -/
def dSeg (b : List Int) : Except Int Sg :=
  match pSeg b 0 with
  | .ok (s, nx) => if nx < b.length then .error 7 else .ok s
  | .error x => .error x
/-- how Decode ends -/
def RPd (r : Except Int Sg) (w : World) (e : Ending) (w' : World) : Prop :=
  match r with
  | .ok s => ∃ RA rc n VA vc m, e = .returned (.tuple #[.agg #[.int .i64 s.kd, .slice RA n rc, .int .i64 s.q.A, .int .i64 s.q.R, .int .i64 s.q.N, .int .i64 s.q.D, .slice VA m vc, .int .i64 s.er], .int .i64 0]) ∧ Hid (n = s.l.length ∧ m = s.vs.length) ∧ RR w' RA rc s.l ∧ VR w' VA vc s.vs ∧ Below w.heap.size w w'
  | .error z => e = .returned (.tuple #[.agg #[.int .i64 0, .slice none 0 0, .int .i64 0, .int .i64 0, .int .i64 0, .int .i64 0, .slice none 0 0, .int .i64 0], .int .i64 z]) ∧ Below w.heap.size w w'

section
variable (B : Option Addr) (c : Nat) (b : List Int) (hb : Byt b)
set_option maxRecDepth 100000 in
set_option maxHeartbeats 4000000 in
include hb in
theorem code_Decode (w : World) (hy : YR w B c b) :
    Calls Tryz.prog 19 #[.slice B b.length c] w (RPd (dSeg b) w) := by
  have c1 := fun w hy => get_in B c b hb 0 (Nat.zero_le _) w hy
  simp only [Int.natCast_zero] at c1
  go_enter Tryz.func19, Tryz.ntmps19
  go_wp2_with fail
  refine (c1 _ (hy.below (bA (b0 w) _))).mono ?_
  rintro e w3 hp
  have f_o2 := na w #[.int .i64 0, .slice none 0 0, .int .i64 0, .int .i64 0, .int .i64 0, .int .i64 0, .slice none 0 0, .int .i64 0] 27
  cases e1 : pSeg b 0 with
  | error x =>
    rw [e1] at hp
    obtain ⟨rfl, hb3⟩ := hp
    have hxx := pSeg_err e1
    have dx : (x != 0) = true := by simp; omega
    have dx2 : (x == 0) = false := by simp; omega
    have hres : Hid (dSeg b = .error x) := hide (by unfold dSeg; rw [e1])
    have f_o3 := kp hb3 f_o2
    have BB3 := bB (bA (b0 w) _) hb3
    clear e1 hxx
    go_simp
    iterate 20 (try go_step)
    generalize hw4 : World.alloc w3 _ = w4
    have f_o4 : w4.heap[w.heap.size]? = some (.cells #[.int .i64 0, .slice none 0 0, .int .i64 0, .int .i64 0, .int .i64 0, .int .i64 0, .slice none 0 0, .int .i64 0] 27 (0, 0)) := by rw [← hw4]; exact ka f_o3 _
    have BB4 : Below w.heap.size w w4 := by rw [← hw4]; exact bA BB3 _
    clear hw4 f_o3 f_o2 BB3 hb3
    obtain ⟨zo_a, zo_b, lo1⟩ := rcell f_o4
    go_wp2_with fail
    rw [row8 (f_o4)]
    generalize hT : setRow _ _ _ = w5
    obtain ⟨hx4, f4⟩ := fin_x (b0 _) (f_o4) hT
    clear hT
    have zE := (rcell f4).1
    have zL := (rcell f4).2.2
    refine bodyPost_ret (by simp [results, Tryz.results19, go_sem, zE, zL]; try rfl) rfl ?_
    unfold RPd
    rw [hres.out]
    exact ⟨rfl, bX BB4 hx4 (by omega)⟩
  | ok p =>
    obtain ⟨⟨kd, l, ⟨qA, qR, qN, qD⟩, vs, er⟩, nx⟩ := p
    rw [e1] at hp
    obtain ⟨RA, rc, ln, VA, vc, lm, rfl, hn, rl3, rv3, hb3⟩ := hp
    replace hn := hide (And.intro hn.out.1 hn.out.2.1)
    have f_o3 := kp hb3 f_o2
    have BB3 := bB (bA (b0 w) _) hb3
    simp only
    by_cases hnx : nx < b.length
    · have hres : Hid (dSeg b = .error 7) := hide (by unfold dSeg; rw [e1]; simp only; rw [if_pos hnx])
      have dx : decide ((nx : Int) < (b.length : Int)) = true := by simp; omega
      clear e1
      go_simp
      iterate 20 (try go_step)
      generalize hw4 : World.alloc w3 _ = w4
      have f_o4 : w4.heap[w.heap.size]? = some (.cells #[.int .i64 0, .slice none 0 0, .int .i64 0, .int .i64 0, .int .i64 0, .int .i64 0, .slice none 0 0, .int .i64 0] 27 (0, 0)) := by rw [← hw4]; exact ka f_o3 _
      have BB4 : Below w.heap.size w w4 := by rw [← hw4]; exact bA BB3 _
      clear hw4 f_o3 f_o2 BB3 hb3 rl3 rv3
      obtain ⟨zo_a, zo_b, lo2⟩ := rcell f_o4
      go_wp2_with fail
      rw [row8 (f_o4)]
      generalize hT : setRow _ _ _ = w5
      obtain ⟨hx4, f4⟩ := fin_x (b0 _) (f_o4) hT
      clear hT
      have zE := (rcell f4).1
      have zL := (rcell f4).2.2
      refine bodyPost_ret (by simp [results, Tryz.results19, go_sem, zE, zL]; try rfl) rfl ?_
      unfold RPd
      rw [hres.out]
      exact ⟨rfl, bX BB4 hx4 (by omega)⟩
    · have hres : Hid (dSeg b = .ok ⟨kd, l, ⟨qA, qR, qN, qD⟩, vs, er⟩) := hide (by unfold dSeg; rw [e1]; simp only; rw [if_neg hnx])
      have dx : decide ((nx : Int) < (b.length : Int)) = false := by simp; omega
      clear e1
      go_simp
      iterate 20 (try go_step)
      generalize hw4 : World.alloc w3 _ = w4
      have f_o4 : w4.heap[w.heap.size]? = some (.cells #[.int .i64 0, .slice none 0 0, .int .i64 0, .int .i64 0, .int .i64 0, .int .i64 0, .slice none 0 0, .int .i64 0] 27 (0, 0)) := by rw [← hw4]; exact ka f_o3 _
      have f_s4 : w4.heap[w3.heap.size]? = some (.cells #[.int .i64 kd, .slice RA ln rc, .int .i64 qA, .int .i64 qR, .int .i64 qN, .int .i64 qD, .slice VA lm vc, .int .i64 er] 27 (0, 0)) := by rw [← hw4]; exact na w3 _ _
      have BB4 : Below w.heap.size w w4 := by rw [← hw4]; exact bA BB3 _
      have ls3 := hb3.size
      simp only [World.size_alloc] at ls3
      have rl4 := rl3.below (bA (b0 w3) (.cells #[.int .i64 kd, .slice RA ln rc, .int .i64 qA, .int .i64 qR, .int .i64 qN, .int .i64 qD, .slice VA lm vc, .int .i64 er] 27))
      have rv4 := rv3.below (bA (b0 w3) (.cells #[.int .i64 kd, .slice RA ln rc, .int .i64 qA, .int .i64 qR, .int .i64 qN, .int .i64 qD, .slice VA lm vc, .int .i64 er] 27))
      first | rw [hw4] at rl4 rv4 | skip
      clear hw4 f_o3 f_o2 BB3 hb3 rl3 rv3
      obtain ⟨zo_a, zo_b, lo3⟩ := rcell f_o4
      obtain ⟨zs_a, zs_b, ls4⟩ := rcell f_s4
      go_wp2_with fail
      rw [row8 f_o4]
      generalize hT5 : setRow _ _ _ = w5
      obtain ⟨hx5, f_o5⟩ := fin_x (b0 _) f_o4 hT5
      clear hT5
      have f_s5 := kx hx5 (f_s4) (by omega)
      have rd_l5 := rl4.exc hx5 (f_o4) (by decide)
      have rd_v5 := rv4.exc hx5 (f_o4) (by decide)
      have hB5 := bX BB4 hx5 (by omega)
      clear zo_a zo_b zs_a zs_b
      obtain ⟨zs_a, zs_b, ls5⟩ := rcell f_s5
      obtain ⟨zo_a, zo_b, lo5⟩ := rcell f_o5
      have zE := (rcell (f_o5)).1
      have zL := (rcell (f_o5)).2.2
      refine bodyPost_ret (by simp [results, Tryz.results19, go_sem, zE, zL]; try rfl) rfl ?_
      unfold RPd
      rw [hres.out]
      exact ⟨RA, rc, ln, VA, vc, lm, rfl, hn, rd_l5, rd_v5, hB5⟩
end
end Go.Proofs.YtmpfbkeamihjbaaGreat
