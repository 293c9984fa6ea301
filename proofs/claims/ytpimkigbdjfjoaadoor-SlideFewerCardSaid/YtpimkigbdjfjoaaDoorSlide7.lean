/- slide.tells, whole and their closures at this program (slopes, lines). -/
import Derived.Test.YtpimkigbdjfjoaaDoorSlide4
import Derived.Test.YtpimkigbdjfjoaaDoorP7
import Derived.Test.YtpimkigbdjfjoaaDoorP9
import Derived.Deep.RegionHeld3
set_option linter.unusedSimpArgs false
set_option linter.unusedVariables false
namespace Go.Proofs.YtpimkigbdjfjoaaDoor
open Go.RowKit
variable {ta : TypeId}
attribute [local go_sem] Oper.semAt_some

@[go_sem] theorem run_store_func {P : Program} {w : World} {a : Addr} {m : Mode} (fn : Fn) (first cap : Array Value) : (store a (.func fn first cap) m).run P w = stored P w a (.func fn first cap) m := run_store P w a _ m rfl

theorem OwnB.base {B B' : Nat} {w : World} {v : Value} {l : List Bd} (h : OwnB B w v l) (hB : B' ≤ B) : OwnB B' w v l := by
  obtain ⟨h1, h2⟩ := h
  refine ⟨h1, ?_⟩
  rcases h2 with h2 | ⟨g, cap, cur, h3, h4, h5⟩
  · exact .inl h2
  · exact .inr ⟨g, cap, cur, h3, Nat.le_trans hB h4, h5⟩

set_option maxRecDepth 100000 in
set_option maxHeartbeats 1000000 in
theorem whole1_s_short (g pl pf n m c c' : Nat) (A A' : Option Addr) (s : Sl × Sl) (fv : Value) (hnm : n < m) (w : World) (hg : w.heap[g]? = some (.cells (fcs s (.slice A n c)) 78 (0, 0))) (hpl : w.heap[pl]? = some (.cells #[.slice A' m c'] 22 (0, 0))) :
    Calls Tryd.prog 75 #[.pointer (some ⟨g, 0, none⟩), .pointer (some ⟨pl, 0, none⟩), .pointer (some ⟨pf, 0, none⟩)] w fun e w' => e = .returned (.tuple #[.agg #[.int .i64 0, .int .i64 0, .int .i64 0, .int .i64 0], .int .i64 181]) ∧ Below w.heap.size w w' := by
  unfold fcs at hg
  have hd : decide ((n : Int) < (m : Int)) = true := decide_eq_true (by omega)
  go_enter Tryd.func75, Tryd.ntmps75
  obtain ⟨zg_a, zg_b, lg0⟩ := rcell hg
  obtain ⟨zp_a, zp_b, lp0⟩ := rcell hpl
  go_wp2_with fail
  go_region_held3 (fun w' => w'.cell? ⟨g, 4, none⟩ = some (.slice A n c) ∧ w'.cell? ⟨pl, 0, none⟩ = some (.slice A' m c')) (go_keep) (fail)
  have hdB : Below (w.alloc (.cells #[.int .i64 0, .int .i64 0, .int .i64 0, .int .i64 0] 73)).heap.size (w.alloc (.cells #[.int .i64 0, .int .i64 0, .int .i64 0, .int .i64 0] 73)) (w.alloc (.cells #[.int .i64 0, .int .i64 0, .int .i64 0, .int .i64 0] 73)).drew := (b0 _).drew
  revert hdB
  generalize (w.alloc (.cells #[.int .i64 0, .int .i64 0, .int .i64 0, .int .i64 0] 73)).drew = wd
  intro hdB
  have fd_g := kp hdB (ka hg (.cells #[.int .i64 0, .int .i64 0, .int .i64 0, .int .i64 0] 73))
  have fd_p := kp hdB (ka hpl (.cells #[.int .i64 0, .int .i64 0, .int .i64 0, .int .i64 0] 73))
  have fd_o := kp hdB (na w #[.int .i64 0, .int .i64 0, .int .i64 0, .int .i64 0] 73)
  have BD := bB (bA (b0 w) (.cells #[.int .i64 0, .int .i64 0, .int .i64 0, .int .i64 0] 73)) hdB
  obtain ⟨zg_a, zg_b, lg1⟩ := rcell fd_g
  obtain ⟨zp_a, zp_b, lp2⟩ := rcell fd_p
  obtain ⟨zo_a, zo_b, lo3⟩ := rcell fd_o
  go_wp2_with fail
  rw [row4 (fd_o)]
  generalize hT : setRow _ _ _ = wE
  obtain ⟨hbE, hgE⟩ := ret_row BD (by omega) (fd_o) hT
  have zE := (rcell hgE).1
  have zL := (rcell hgE).2.2
  clear hT
  refine bodyPost_ret (by simp [results, Tryd.results75, go_sem, zE, zL]; try rfl) rfl ?_
  exact ⟨rfl, bA hbE _⟩

set_option maxRecDepth 100000 in
set_option maxHeartbeats 1000000 in
theorem whole1_s_all (g pl pf n m c c' : Nat) (A A' : Option Addr) (s : Sl × Sl) (hnm : m ≤ n) (w : World) (hg : w.heap[g]? = some (.cells (fcs s (.slice A n c)) 78 (0, 0))) (hpl : w.heap[pl]? = some (.cells #[.slice A' m c'] 22 (0, 0)))
    (hpf : w.heap[pf]? = some (.cells #[.func (Fn.func 39) #[] #[]] 81 (0, 0))) (x0 x1 x2 x3 E : Int)
    (cS : ∀ w1, Below w.heap.size w w1 → Calls Tryd.prog 39 #[.pointer (some ⟨g, 0, none⟩)] w1 fun e w' => e = .returned (.tuple #[.agg #[.int .i64 x0, .int .i64 x1, .int .i64 x2, .int .i64 x3], .int .i64 E]) ∧ Below w1.heap.size w1 w') :
    Calls Tryd.prog 75 #[.pointer (some ⟨g, 0, none⟩), .pointer (some ⟨pl, 0, none⟩), .pointer (some ⟨pf, 0, none⟩)] w fun e w' => e = .returned (.tuple #[.agg #[.int .i64 x0, .int .i64 x1, .int .i64 x2, .int .i64 x3], .int .i64 E]) ∧ Below w.heap.size w w' := by
  unfold fcs at hg
  have hd : decide ((n : Int) < (m : Int)) = false := decide_eq_false (by omega)
  go_enter Tryd.func75, Tryd.ntmps75
  obtain ⟨zg_a, zg_b, lg0⟩ := rcell hg
  obtain ⟨zp_a, zp_b, lp0⟩ := rcell hpl
  obtain ⟨zf_a, zf_b, lf0⟩ := rcell hpf
  go_wp2_with fail
  go_region_held3 (fun w' => w'.cell? ⟨g, 4, none⟩ = some (.slice A n c) ∧ w'.cell? ⟨pl, 0, none⟩ = some (.slice A' m c')) (go_keep) (fail)
  have hdB : Below (w.alloc (.cells #[.int .i64 0, .int .i64 0, .int .i64 0, .int .i64 0] 73)).heap.size (w.alloc (.cells #[.int .i64 0, .int .i64 0, .int .i64 0, .int .i64 0] 73)) (w.alloc (.cells #[.int .i64 0, .int .i64 0, .int .i64 0, .int .i64 0] 73)).drew := (b0 _).drew
  revert hdB
  generalize (w.alloc (.cells #[.int .i64 0, .int .i64 0, .int .i64 0, .int .i64 0] 73)).drew = wd
  intro hdB
  have fd_g := kp hdB (ka hg (.cells #[.int .i64 0, .int .i64 0, .int .i64 0, .int .i64 0] 73))
  have fd_p := kp hdB (ka hpl (.cells #[.int .i64 0, .int .i64 0, .int .i64 0, .int .i64 0] 73))
  have fd_o := kp hdB (na w #[.int .i64 0, .int .i64 0, .int .i64 0, .int .i64 0] 73)
  have BD := bB (bA (b0 w) (.cells #[.int .i64 0, .int .i64 0, .int .i64 0, .int .i64 0] 73)) hdB
  have fd_f := kp hdB (ka hpf (.cells #[.int .i64 0, .int .i64 0, .int .i64 0, .int .i64 0] 73))
  obtain ⟨zg_a, zg_b, lg1⟩ := rcell fd_g
  obtain ⟨zp_a, zp_b, lp2⟩ := rcell fd_p
  obtain ⟨zo_a, zo_b, lo3⟩ := rcell fd_o
  obtain ⟨zf_a, zf_b, lf4⟩ := rcell fd_f
  go_wp2_with fail
  refine (cS _ BD).mono ?_
  rintro e w5 ⟨rfl, hb5⟩
  have f_g5 := kp hb5 (fd_g)
  have f_p5 := kp hb5 (fd_p)
  have f_o5 := kp hb5 (fd_o)
  have f_f5 := kp hb5 (fd_f)
  have hB5 := bB BD hb5
  clear zf_a zf_b zg_a zg_b zo_a zo_b zp_a zp_b
  obtain ⟨zg_a, zg_b, lg5⟩ := rcell f_g5
  obtain ⟨zp_a, zp_b, lp5⟩ := rcell f_p5
  obtain ⟨zo_a, zo_b, lo5⟩ := rcell f_o5
  obtain ⟨zf_a, zf_b, lf5⟩ := rcell f_f5
  go_wp2_with fail
  (rw [row4 (f_o5)]; generalize hT : setRow _ _ _ = wE; obtain ⟨hbE, hgE⟩ := ret_row hB5 (by omega) (f_o5) hT; have zE := (rcell hgE).1; clear hT; refine bodyPost_ret (by simp [results, Tryd.results75, go_sem, zE]; try rfl) rfl ?_)
  exact ⟨rfl, hbE⟩

set_option maxRecDepth 100000 in
set_option maxHeartbeats 1000000 in
theorem tells_s_no (A : Option Addr) (c : Nat) (l : List Bd) (h : okB l = false) (fv : Value) (w : World) (hR : BR w A c l) :
    Calls Tryd.prog 74 #[.slice A l.length c, fv] w fun e w' => e = .returned (.tuple #[.agg #[.int .i64 0, .int .i64 0, .int .i64 0, .int .i64 0], .int .i64 180]) ∧ Below w.heap.size w w' := by
  have c1 := pmc_Check A c l
  rw [chE_no h] at c1
  go_enter Tryd.func74, Tryd.ntmps74
  go_wp2_with fail
  refine (c1 _ (hR.below (bA (bA (b0 _) _) _))).mono ?_
  rintro e w1 ⟨rfl, hb1⟩
  have f_o1 := kp hb1 (ka (na w #[.int .i64 0, .int .i64 0, .int .i64 0, .int .i64 0] 73) (.cells #[.int .i64 0, .int .i64 0, .int .i64 0, .int .i64 0] 73))
  have f_z1 := kp hb1 (na1 w (.cells #[.int .i64 0, .int .i64 0, .int .i64 0, .int .i64 0] 73) #[.int .i64 0, .int .i64 0, .int .i64 0, .int .i64 0] 73)
  have hB1 := bB (bA (bA (b0 w) (.cells #[.int .i64 0, .int .i64 0, .int .i64 0, .int .i64 0] 73)) (.cells #[.int .i64 0, .int .i64 0, .int .i64 0, .int .i64 0] 73)) hb1
  obtain ⟨zo_a, zo_b, lo1⟩ := rcell f_o1
  obtain ⟨zz_a, zz_b, lz1⟩ := rcell f_z1
  go_wp2_with fail
  (rw [row4 (f_o1)]; generalize hT : setRow _ _ _ = wE; obtain ⟨hbE, hgE⟩ := ret_row hB1 (by omega) (f_o1) hT; have zE := (rcell hgE).1; clear hT; refine bodyPost_ret (by simp [results, Tryd.results74, go_sem, zE]; try rfl) rfl ?_)
  exact ⟨rfl, hbE⟩

set_option maxRecDepth 100000 in
set_option maxHeartbeats 1000000 in
theorem tells_s_yes (pl pf c : Nat) (A : Option Addr) (l : List Bd) (h : okB l = true) (x0 x1 x2 x3 E : Int) (w : World) (hall : w.heap[0]? = some (.cells all4 ta (0, 0))) (hR : BR w A c l)
    (cW : ∀ g v w1, w1.heap[g]? = some (.cells (fcs (sk l (firstS l)) v) 78 (0, 0)) → OwnB w.heap.size w1 v (l.take (firstS l)) → Below w.heap.size w w1 →
      Calls Tryd.prog 75 #[.pointer (some ⟨g, 0, none⟩), .pointer (some ⟨pl, 0, none⟩), .pointer (some ⟨pf, 0, none⟩)] w1 fun e w' => e = .returned (.tuple #[.agg #[.int .i64 x0, .int .i64 x1, .int .i64 x2, .int .i64 x3], .int .i64 E]) ∧ Below w1.heap.size w1 w') :
    Calls Tryd.prog 74 #[.slice A l.length c, .func (Fn.func 75) #[] #[.pointer (some ⟨pl, 0, none⟩), .pointer (some ⟨pf, 0, none⟩)]] w fun e w' => e = .returned (.tuple #[.agg #[.int .i64 x0, .int .i64 x1, .int .i64 x2, .int .i64 x3], .int .i64 E]) ∧ Below w.heap.size w w' := by
  obtain ⟨k0, k1, k2⟩ := okB_spec h
  have c1 := pmc_Check A c l
  rw [chE_yes h] at c1
  have c2 := slide_longest (ta := ta) A c l k2 k1
  go_enter Tryd.func74, Tryd.ntmps74
  obtain ⟨za_a, za_b, la0⟩ := rcell hall
  go_wp2_with fail
  refine (c1 _ (hR.below (bA (bA (b0 _) _) _))).mono ?_
  rintro e w1 ⟨rfl, hb1⟩
  have f_a1 := kp hb1 (ka (ka (hall) (.cells #[.int .i64 0, .int .i64 0, .int .i64 0, .int .i64 0] 73)) (.cells #[.int .i64 0, .int .i64 0, .int .i64 0, .int .i64 0] 73))
  have f_o1 := kp hb1 (ka (na w #[.int .i64 0, .int .i64 0, .int .i64 0, .int .i64 0] 73) (.cells #[.int .i64 0, .int .i64 0, .int .i64 0, .int .i64 0] 73))
  have f_z1 := kp hb1 (na1 w (.cells #[.int .i64 0, .int .i64 0, .int .i64 0, .int .i64 0] 73) #[.int .i64 0, .int .i64 0, .int .i64 0, .int .i64 0] 73)
  have hB1 := bB (bA (bA (b0 w) (.cells #[.int .i64 0, .int .i64 0, .int .i64 0, .int .i64 0] 73)) (.cells #[.int .i64 0, .int .i64 0, .int .i64 0, .int .i64 0] 73)) hb1
  clear za_a za_b
  obtain ⟨za_a, za_b, la1⟩ := rcell f_a1
  obtain ⟨zo_a, zo_b, lo1⟩ := rcell f_o1
  obtain ⟨zz_a, zz_b, lz1⟩ := rcell f_z1
  go_wp2_with fail
  refine (c2 _ (f_a1) (hR.below hB1)).mono ?_
  rintro e w2 ⟨v, rfl, hg2, ho2, hb2⟩
  have B2 := bB hB1 hb2
  have f_o2 := kp hb2 (f_o1)
  have ho2' : OwnB w.heap.size w2 v (l.take (firstS l)) := ho2.base (hB1).size
  obtain ⟨zo_a, zo_b, lo2⟩ := rcell f_o2
  go_wp2_with fail
  refine (cW _ _ _ hg2 ho2' B2).mono ?_
  rintro e w3 ⟨rfl, hb3⟩
  have f_o3 := kp hb3 (f_o2)
  have hB3 := bB B2 hb3
  clear zo_a zo_b
  obtain ⟨zo_a, zo_b, lo3⟩ := rcell f_o3
  go_wp2_with fail
  (rw [row4 (f_o3)]; generalize hT : setRow _ _ _ = wE; obtain ⟨hbE, hgE⟩ := ret_row hB3 (by omega) (f_o3) hT; have zE := (rcell hgE).1; clear hT; refine bodyPost_ret (by simp [results, Tryd.results74, go_sem, zE]; try rfl) rfl ?_)
  exact ⟨rfl, hbE⟩

set_option maxRecDepth 100000 in
set_option maxHeartbeats 1000000 in
theorem whole_s_no (A : Option Addr) (c : Nat) (l : List Bd) (h : okB l = false) (w : World) (hR : BR w A c l) :
    Calls Tryd.prog 38 #[.slice A l.length c, .func (Fn.func 39) #[] #[]] w fun e w' => e = .returned (.tuple #[.agg #[.int .i64 0, .int .i64 0, .int .i64 0, .int .i64 0], .int .i64 180]) ∧ Below w.heap.size w w' := by
  have hmf : ∀ (fn : Fn) (first cap : Array Value) (w : World), (Instr.makeFunc fn first cap).run Tryd.prog w = .ok (.func fn first cap) w := fun _ _ _ _ => rfl
  have c1 := tells_s_no A c l h
  go_enter Tryd.func38, Tryd.ntmps38
  go_wp2_with fail
  refine (c1 _ _ (hR.below (bA (bA (bA (b0 _) _) _) _))).mono ?_
  rintro e w1 ⟨rfl, hb1⟩
  have f_p1 := kp hb1 (ka (ka (na w #[.slice A l.length c] 22) (.cells #[.func (Fn.func 39) #[] #[]] 81)) (.cells #[.int .i64 0, .int .i64 0, .int .i64 0, .int .i64 0] 73))
  have f_f1 := kp hb1 (ka (na1 w (.cells #[.slice A l.length c] 22) #[.func (Fn.func 39) #[] #[]] 81) (.cells #[.int .i64 0, .int .i64 0, .int .i64 0, .int .i64 0] 73))
  have f_o1 := kp hb1 (na2 w (.cells #[.slice A l.length c] 22) (.cells #[.func (Fn.func 39) #[] #[]] 81) #[.int .i64 0, .int .i64 0, .int .i64 0, .int .i64 0] 73)
  have hB1 := bB (bA (bA (bA (b0 w) (.cells #[.slice A l.length c] 22)) (.cells #[.func (Fn.func 39) #[] #[]] 81)) (.cells #[.int .i64 0, .int .i64 0, .int .i64 0, .int .i64 0] 73)) hb1
  obtain ⟨zp_a, zp_b, lp1⟩ := rcell f_p1
  obtain ⟨zf_a, zf_b, lf1⟩ := rcell f_f1
  obtain ⟨zo_a, zo_b, lo1⟩ := rcell f_o1
  go_wp2_with fail
  (rw [row4 (f_o1)]; generalize hT : setRow _ _ _ = wE; obtain ⟨hbE, hgE⟩ := ret_row hB1 (by omega) (f_o1) hT; have zE := (rcell hgE).1; clear hT; refine bodyPost_ret (by simp [results, Tryd.results38, go_sem, zE]; try rfl) rfl ?_)
  exact ⟨rfl, hbE⟩

set_option maxRecDepth 100000 in
set_option maxHeartbeats 1000000 in
theorem whole_s_short (A : Option Addr) (c : Nat) (l : List Bd) (h : okB l = true) (ho : firstS l < l.length) (w : World) (hall : w.heap[0]? = some (.cells all4 ta (0, 0))) (hR : BR w A c l) :
    Calls Tryd.prog 38 #[.slice A l.length c, .func (Fn.func 39) #[] #[]] w fun e w' => e = .returned (.tuple #[.agg #[.int .i64 0, .int .i64 0, .int .i64 0, .int .i64 0], .int .i64 181]) ∧ Below w.heap.size w w' := by
  have hmf : ∀ (fn : Fn) (first cap : Array Value) (w : World), (Instr.makeFunc fn first cap).run Tryd.prog w = .ok (.func fn first cap) w := fun _ _ _ _ => rfl
  have htl : (l.take (firstS l)).length = firstS l := by rw [List.length_take]; omega
  go_enter Tryd.func38, Tryd.ntmps38
  obtain ⟨za_a, za_b, la0⟩ := rcell hall
  have hP := (ka (ka (na w #[.slice A l.length c] 22) (.cells #[.func (Fn.func 39) #[] #[]] 81)) (.cells #[.int .i64 0, .int .i64 0, .int .i64 0, .int .i64 0] 73))
  have cT := fun w' (hb : Below _ _ w') => tells_s_yes (w.heap.size) (w.heap.size + 1) c A l h 0 0 0 0 181 w' (kp hb (ka (ka (ka (hall) (.cells #[.slice A l.length c] 22)) (.cells #[.func (Fn.func 39) #[] #[]] 81)) (.cells #[.int .i64 0, .int .i64 0, .int .i64 0, .int .i64 0] 73))) (hR.below (bB (bA (bA (bA (b0 _) _) _) _) hb)) (fun g v w1 hg hov hb1 => by
    obtain ⟨A', c', rfl, -⟩ := hov.br
    rw [htl] at hg
    exact whole1_s_short g _ _ (firstS l) l.length c' c A' A _ (.int .i64 0) ho w1 hg (kp hb1 (kp hb hP)))
  go_wp2_with fail
  refine (cT _ (b0 _)).mono ?_
  rintro e w1 ⟨rfl, hb1⟩
  have f_a1 := kp hb1 (ka (ka (ka (hall) (.cells #[.slice A l.length c] 22)) (.cells #[.func (Fn.func 39) #[] #[]] 81)) (.cells #[.int .i64 0, .int .i64 0, .int .i64 0, .int .i64 0] 73))
  have f_p1 := kp hb1 (ka (ka (na w #[.slice A l.length c] 22) (.cells #[.func (Fn.func 39) #[] #[]] 81)) (.cells #[.int .i64 0, .int .i64 0, .int .i64 0, .int .i64 0] 73))
  have f_f1 := kp hb1 (ka (na1 w (.cells #[.slice A l.length c] 22) #[.func (Fn.func 39) #[] #[]] 81) (.cells #[.int .i64 0, .int .i64 0, .int .i64 0, .int .i64 0] 73))
  have f_o1 := kp hb1 (na2 w (.cells #[.slice A l.length c] 22) (.cells #[.func (Fn.func 39) #[] #[]] 81) #[.int .i64 0, .int .i64 0, .int .i64 0, .int .i64 0] 73)
  have hB1 := bB (bA (bA (bA (b0 w) (.cells #[.slice A l.length c] 22)) (.cells #[.func (Fn.func 39) #[] #[]] 81)) (.cells #[.int .i64 0, .int .i64 0, .int .i64 0, .int .i64 0] 73)) hb1
  clear za_a za_b
  obtain ⟨za_a, za_b, la1⟩ := rcell f_a1
  obtain ⟨zp_a, zp_b, lp1⟩ := rcell f_p1
  obtain ⟨zf_a, zf_b, lf1⟩ := rcell f_f1
  obtain ⟨zo_a, zo_b, lo1⟩ := rcell f_o1
  go_wp2_with fail
  (rw [row4 (f_o1)]; generalize hT : setRow _ _ _ = wE; obtain ⟨hbE, hgE⟩ := ret_row hB1 (by omega) (f_o1) hT; have zE := (rcell hgE).1; clear hT; refine bodyPost_ret (by simp [results, Tryd.results38, go_sem, zE]; try rfl) rfl ?_)
  exact ⟨rfl, hbE⟩

set_option maxRecDepth 100000 in
set_option maxHeartbeats 1000000 in
theorem whole_s_all (A : Option Addr) (c : Nat) (l : List Bd) (h : okB l = true) (ho : firstS l = l.length) (x0 x1 x2 x3 E : Int) (w : World) (hall : w.heap[0]? = some (.cells all4 ta (0, 0))) (hR : BR w A c l)
    (cS : ∀ g v w1, w1.heap[g]? = some (.cells (fcs (sk l l.length) v) 78 (0, 0)) → OwnB w.heap.size w1 v l → Below w.heap.size w w1 →
      Calls Tryd.prog 39 #[.pointer (some ⟨g, 0, none⟩)] w1 fun e w' => e = .returned (.tuple #[.agg #[.int .i64 x0, .int .i64 x1, .int .i64 x2, .int .i64 x3], .int .i64 E]) ∧ Below w1.heap.size w1 w') :
    Calls Tryd.prog 38 #[.slice A l.length c, .func (Fn.func 39) #[] #[]] w fun e w' => e = .returned (.tuple #[.agg #[.int .i64 x0, .int .i64 x1, .int .i64 x2, .int .i64 x3], .int .i64 E]) ∧ Below w.heap.size w w' := by
  have hmf : ∀ (fn : Fn) (first cap : Array Value) (w : World), (Instr.makeFunc fn first cap).run Tryd.prog w = .ok (.func fn first cap) w := fun _ _ _ _ => rfl
  have CS := hide cS
  clear cS
  go_enter Tryd.func38, Tryd.ntmps38
  obtain ⟨za_a, za_b, la0⟩ := rcell hall
  have hP := (ka (ka (na w #[.slice A l.length c] 22) (.cells #[.func (Fn.func 39) #[] #[]] 81)) (.cells #[.int .i64 0, .int .i64 0, .int .i64 0, .int .i64 0] 73))
  have hQ := (ka (na1 w (.cells #[.slice A l.length c] 22) #[.func (Fn.func 39) #[] #[]] 81) (.cells #[.int .i64 0, .int .i64 0, .int .i64 0, .int .i64 0] 73))
  have hBB := (bA (bA (bA (b0 w) (.cells #[.slice A l.length c] 22)) (.cells #[.func (Fn.func 39) #[] #[]] 81)) (.cells #[.int .i64 0, .int .i64 0, .int .i64 0, .int .i64 0] 73))
  have cT := fun w' (hb : Below _ _ w') => tells_s_yes (w.heap.size) (w.heap.size + 1) c A l h x0 x1 x2 x3 E w' (kp hb (ka (ka (ka (hall) (.cells #[.slice A l.length c] 22)) (.cells #[.func (Fn.func 39) #[] #[]] 81)) (.cells #[.int .i64 0, .int .i64 0, .int .i64 0, .int .i64 0] 73))) (hR.below (bB hBB hb)) (fun g v w1 hg hov hb1 => by
    rw [ho] at hg hov
    rw [List.take_length] at hov
    obtain ⟨A', c', rfl, -⟩ := hov.br
    have hB1 := bB (bB hBB hb) hb1
    exact whole1_s_all g _ _ l.length l.length c' c A' A _ (Nat.le_refl _) w1 hg (kp hb1 (kp hb hP)) (kp hb1 (kp hb hQ)) x0 x1 x2 x3 E (fun w2 hb2 => CS.out g _ w2 (kp hb2 hg) ((hov.base (bB hBB hb).size).lift hb2) (bB hB1 hb2)))
  go_wp2_with fail
  refine (cT _ (b0 _)).mono ?_
  rintro e w1 ⟨rfl, hb1⟩
  have f_a1 := kp hb1 (ka (ka (ka (hall) (.cells #[.slice A l.length c] 22)) (.cells #[.func (Fn.func 39) #[] #[]] 81)) (.cells #[.int .i64 0, .int .i64 0, .int .i64 0, .int .i64 0] 73))
  have f_p1 := kp hb1 (ka (ka (na w #[.slice A l.length c] 22) (.cells #[.func (Fn.func 39) #[] #[]] 81)) (.cells #[.int .i64 0, .int .i64 0, .int .i64 0, .int .i64 0] 73))
  have f_f1 := kp hb1 (ka (na1 w (.cells #[.slice A l.length c] 22) #[.func (Fn.func 39) #[] #[]] 81) (.cells #[.int .i64 0, .int .i64 0, .int .i64 0, .int .i64 0] 73))
  have f_o1 := kp hb1 (na2 w (.cells #[.slice A l.length c] 22) (.cells #[.func (Fn.func 39) #[] #[]] 81) #[.int .i64 0, .int .i64 0, .int .i64 0, .int .i64 0] 73)
  have hB1 := bB (bA (bA (bA (b0 w) (.cells #[.slice A l.length c] 22)) (.cells #[.func (Fn.func 39) #[] #[]] 81)) (.cells #[.int .i64 0, .int .i64 0, .int .i64 0, .int .i64 0] 73)) hb1
  clear za_a za_b
  obtain ⟨za_a, za_b, la1⟩ := rcell f_a1
  obtain ⟨zp_a, zp_b, lp1⟩ := rcell f_p1
  obtain ⟨zf_a, zf_b, lf1⟩ := rcell f_f1
  obtain ⟨zo_a, zo_b, lo1⟩ := rcell f_o1
  go_wp2_with fail
  (rw [row4 (f_o1)]; generalize hT : setRow _ _ _ = wE; obtain ⟨hbE, hgE⟩ := ret_row hB1 (by omega) (f_o1) hT; have zE := (rcell hgE).1; clear hT; refine bodyPost_ret (by simp [results, Tryd.results38, go_sem, zE]; try rfl) rfl ?_)
  exact ⟨rfl, hbE⟩

set_option maxRecDepth 100000 in
set_option maxHeartbeats 1000000 in
theorem whole1_l_short (g pl pf n m c c' : Nat) (A A' : Option Addr) (s : Sl × Sl) (fv : Value) (hnm : n < m) (w : World) (hg : w.heap[g]? = some (.cells (fcs s (.slice A n c)) 78 (0, 0))) (hpl : w.heap[pl]? = some (.cells #[.slice A' m c'] 22 (0, 0))) :
    Calls Tryd.prog 79 #[.pointer (some ⟨g, 0, none⟩), .pointer (some ⟨pl, 0, none⟩), .pointer (some ⟨pf, 0, none⟩)] w fun e w' => e = .returned (.tuple #[.agg #[.int .i64 0, .int .i64 0, .int .i64 0, .int .i64 0], .int .i64 181]) ∧ Below w.heap.size w w' := by
  unfold fcs at hg
  have hd : decide ((n : Int) < (m : Int)) = true := decide_eq_true (by omega)
  go_enter Tryd.func79, Tryd.ntmps79
  obtain ⟨zg_a, zg_b, lg0⟩ := rcell hg
  obtain ⟨zp_a, zp_b, lp0⟩ := rcell hpl
  go_wp2_with fail
  go_region_held3 (fun w' => w'.cell? ⟨g, 4, none⟩ = some (.slice A n c) ∧ w'.cell? ⟨pl, 0, none⟩ = some (.slice A' m c')) (go_keep) (fail)
  have hdB : Below (w.alloc (.cells #[.int .i64 0, .int .i64 0, .int .i64 0, .int .i64 0] 31)).heap.size (w.alloc (.cells #[.int .i64 0, .int .i64 0, .int .i64 0, .int .i64 0] 31)) (w.alloc (.cells #[.int .i64 0, .int .i64 0, .int .i64 0, .int .i64 0] 31)).drew := (b0 _).drew
  revert hdB
  generalize (w.alloc (.cells #[.int .i64 0, .int .i64 0, .int .i64 0, .int .i64 0] 31)).drew = wd
  intro hdB
  have fd_g := kp hdB (ka hg (.cells #[.int .i64 0, .int .i64 0, .int .i64 0, .int .i64 0] 31))
  have fd_p := kp hdB (ka hpl (.cells #[.int .i64 0, .int .i64 0, .int .i64 0, .int .i64 0] 31))
  have fd_o := kp hdB (na w #[.int .i64 0, .int .i64 0, .int .i64 0, .int .i64 0] 31)
  have BD := bB (bA (b0 w) (.cells #[.int .i64 0, .int .i64 0, .int .i64 0, .int .i64 0] 31)) hdB
  obtain ⟨zg_a, zg_b, lg1⟩ := rcell fd_g
  obtain ⟨zp_a, zp_b, lp2⟩ := rcell fd_p
  obtain ⟨zo_a, zo_b, lo3⟩ := rcell fd_o
  go_wp2_with fail
  rw [row4 (fd_o)]
  generalize hT : setRow _ _ _ = wE
  obtain ⟨hbE, hgE⟩ := ret_row BD (by omega) (fd_o) hT
  have zE := (rcell hgE).1
  have zL := (rcell hgE).2.2
  clear hT
  refine bodyPost_ret (by simp [results, Tryd.results79, go_sem, zE, zL]; try rfl) rfl ?_
  exact ⟨rfl, bA hbE _⟩

set_option maxRecDepth 100000 in
set_option maxHeartbeats 1000000 in
theorem whole1_l_all (g pl pf n m c c' : Nat) (A A' : Option Addr) (s : Sl × Sl) (hnm : m ≤ n) (w : World) (hg : w.heap[g]? = some (.cells (fcs s (.slice A n c)) 78 (0, 0))) (hpl : w.heap[pl]? = some (.cells #[.slice A' m c'] 22 (0, 0)))
    (hpf : w.heap[pf]? = some (.cells #[.func (Fn.func 42) #[] #[]] 86 (0, 0))) (x0 x1 x2 x3 E : Int)
    (cS : ∀ w1, Below w.heap.size w w1 → Calls Tryd.prog 42 #[.pointer (some ⟨g, 0, none⟩)] w1 fun e w' => e = .returned (.tuple #[.agg #[.int .i64 x0, .int .i64 x1, .int .i64 x2, .int .i64 x3], .int .i64 E]) ∧ Below w1.heap.size w1 w') :
    Calls Tryd.prog 79 #[.pointer (some ⟨g, 0, none⟩), .pointer (some ⟨pl, 0, none⟩), .pointer (some ⟨pf, 0, none⟩)] w fun e w' => e = .returned (.tuple #[.agg #[.int .i64 x0, .int .i64 x1, .int .i64 x2, .int .i64 x3], .int .i64 E]) ∧ Below w.heap.size w w' := by
  unfold fcs at hg
  have hd : decide ((n : Int) < (m : Int)) = false := decide_eq_false (by omega)
  go_enter Tryd.func79, Tryd.ntmps79
  obtain ⟨zg_a, zg_b, lg0⟩ := rcell hg
  obtain ⟨zp_a, zp_b, lp0⟩ := rcell hpl
  obtain ⟨zf_a, zf_b, lf0⟩ := rcell hpf
  go_wp2_with fail
  go_region_held3 (fun w' => w'.cell? ⟨g, 4, none⟩ = some (.slice A n c) ∧ w'.cell? ⟨pl, 0, none⟩ = some (.slice A' m c')) (go_keep) (fail)
  have hdB : Below (w.alloc (.cells #[.int .i64 0, .int .i64 0, .int .i64 0, .int .i64 0] 31)).heap.size (w.alloc (.cells #[.int .i64 0, .int .i64 0, .int .i64 0, .int .i64 0] 31)) (w.alloc (.cells #[.int .i64 0, .int .i64 0, .int .i64 0, .int .i64 0] 31)).drew := (b0 _).drew
  revert hdB
  generalize (w.alloc (.cells #[.int .i64 0, .int .i64 0, .int .i64 0, .int .i64 0] 31)).drew = wd
  intro hdB
  have fd_g := kp hdB (ka hg (.cells #[.int .i64 0, .int .i64 0, .int .i64 0, .int .i64 0] 31))
  have fd_p := kp hdB (ka hpl (.cells #[.int .i64 0, .int .i64 0, .int .i64 0, .int .i64 0] 31))
  have fd_o := kp hdB (na w #[.int .i64 0, .int .i64 0, .int .i64 0, .int .i64 0] 31)
  have BD := bB (bA (b0 w) (.cells #[.int .i64 0, .int .i64 0, .int .i64 0, .int .i64 0] 31)) hdB
  have fd_f := kp hdB (ka hpf (.cells #[.int .i64 0, .int .i64 0, .int .i64 0, .int .i64 0] 31))
  obtain ⟨zg_a, zg_b, lg1⟩ := rcell fd_g
  obtain ⟨zp_a, zp_b, lp2⟩ := rcell fd_p
  obtain ⟨zo_a, zo_b, lo3⟩ := rcell fd_o
  obtain ⟨zf_a, zf_b, lf4⟩ := rcell fd_f
  go_wp2_with fail
  refine (cS _ BD).mono ?_
  rintro e w5 ⟨rfl, hb5⟩
  have f_g5 := kp hb5 (fd_g)
  have f_p5 := kp hb5 (fd_p)
  have f_o5 := kp hb5 (fd_o)
  have f_f5 := kp hb5 (fd_f)
  have hB5 := bB BD hb5
  clear zf_a zf_b zg_a zg_b zo_a zo_b zp_a zp_b
  obtain ⟨zg_a, zg_b, lg5⟩ := rcell f_g5
  obtain ⟨zp_a, zp_b, lp5⟩ := rcell f_p5
  obtain ⟨zo_a, zo_b, lo5⟩ := rcell f_o5
  obtain ⟨zf_a, zf_b, lf5⟩ := rcell f_f5
  go_wp2_with fail
  (rw [row4 (f_o5)]; generalize hT : setRow _ _ _ = wE; obtain ⟨hbE, hgE⟩ := ret_row hB5 (by omega) (f_o5) hT; have zE := (rcell hgE).1; clear hT; refine bodyPost_ret (by simp [results, Tryd.results79, go_sem, zE]; try rfl) rfl ?_)
  exact ⟨rfl, hbE⟩

set_option maxRecDepth 100000 in
set_option maxHeartbeats 1000000 in
theorem tells_l_no (A : Option Addr) (c : Nat) (l : List Bd) (h : okB l = false) (fv : Value) (w : World) (hR : BR w A c l) :
    Calls Tryd.prog 78 #[.slice A l.length c, fv] w fun e w' => e = .returned (.tuple #[.agg #[.int .i64 0, .int .i64 0, .int .i64 0, .int .i64 0], .int .i64 180]) ∧ Below w.heap.size w w' := by
  have c1 := pmc_Check A c l
  rw [chE_no h] at c1
  go_enter Tryd.func78, Tryd.ntmps78
  go_wp2_with fail
  refine (c1 _ (hR.below (bA (bA (b0 _) _) _))).mono ?_
  rintro e w1 ⟨rfl, hb1⟩
  have f_o1 := kp hb1 (ka (na w #[.int .i64 0, .int .i64 0, .int .i64 0, .int .i64 0] 31) (.cells #[.int .i64 0, .int .i64 0, .int .i64 0, .int .i64 0] 31))
  have f_z1 := kp hb1 (na1 w (.cells #[.int .i64 0, .int .i64 0, .int .i64 0, .int .i64 0] 31) #[.int .i64 0, .int .i64 0, .int .i64 0, .int .i64 0] 31)
  have hB1 := bB (bA (bA (b0 w) (.cells #[.int .i64 0, .int .i64 0, .int .i64 0, .int .i64 0] 31)) (.cells #[.int .i64 0, .int .i64 0, .int .i64 0, .int .i64 0] 31)) hb1
  obtain ⟨zo_a, zo_b, lo1⟩ := rcell f_o1
  obtain ⟨zz_a, zz_b, lz1⟩ := rcell f_z1
  go_wp2_with fail
  (rw [row4 (f_o1)]; generalize hT : setRow _ _ _ = wE; obtain ⟨hbE, hgE⟩ := ret_row hB1 (by omega) (f_o1) hT; have zE := (rcell hgE).1; clear hT; refine bodyPost_ret (by simp [results, Tryd.results78, go_sem, zE]; try rfl) rfl ?_)
  exact ⟨rfl, hbE⟩

set_option maxRecDepth 100000 in
set_option maxHeartbeats 1000000 in
theorem tells_l_yes (pl pf c : Nat) (A : Option Addr) (l : List Bd) (h : okB l = true) (x0 x1 x2 x3 E : Int) (w : World) (hall : w.heap[0]? = some (.cells all4 ta (0, 0))) (hR : BR w A c l)
    (cW : ∀ g v w1, w1.heap[g]? = some (.cells (fcs (sk l (firstS l)) v) 78 (0, 0)) → OwnB w.heap.size w1 v (l.take (firstS l)) → Below w.heap.size w w1 →
      Calls Tryd.prog 79 #[.pointer (some ⟨g, 0, none⟩), .pointer (some ⟨pl, 0, none⟩), .pointer (some ⟨pf, 0, none⟩)] w1 fun e w' => e = .returned (.tuple #[.agg #[.int .i64 x0, .int .i64 x1, .int .i64 x2, .int .i64 x3], .int .i64 E]) ∧ Below w1.heap.size w1 w') :
    Calls Tryd.prog 78 #[.slice A l.length c, .func (Fn.func 79) #[] #[.pointer (some ⟨pl, 0, none⟩), .pointer (some ⟨pf, 0, none⟩)]] w fun e w' => e = .returned (.tuple #[.agg #[.int .i64 x0, .int .i64 x1, .int .i64 x2, .int .i64 x3], .int .i64 E]) ∧ Below w.heap.size w w' := by
  obtain ⟨k0, k1, k2⟩ := okB_spec h
  have c1 := pmc_Check A c l
  rw [chE_yes h] at c1
  have c2 := slide_longest (ta := ta) A c l k2 k1
  go_enter Tryd.func78, Tryd.ntmps78
  obtain ⟨za_a, za_b, la0⟩ := rcell hall
  go_wp2_with fail
  refine (c1 _ (hR.below (bA (bA (b0 _) _) _))).mono ?_
  rintro e w1 ⟨rfl, hb1⟩
  have f_a1 := kp hb1 (ka (ka (hall) (.cells #[.int .i64 0, .int .i64 0, .int .i64 0, .int .i64 0] 31)) (.cells #[.int .i64 0, .int .i64 0, .int .i64 0, .int .i64 0] 31))
  have f_o1 := kp hb1 (ka (na w #[.int .i64 0, .int .i64 0, .int .i64 0, .int .i64 0] 31) (.cells #[.int .i64 0, .int .i64 0, .int .i64 0, .int .i64 0] 31))
  have f_z1 := kp hb1 (na1 w (.cells #[.int .i64 0, .int .i64 0, .int .i64 0, .int .i64 0] 31) #[.int .i64 0, .int .i64 0, .int .i64 0, .int .i64 0] 31)
  have hB1 := bB (bA (bA (b0 w) (.cells #[.int .i64 0, .int .i64 0, .int .i64 0, .int .i64 0] 31)) (.cells #[.int .i64 0, .int .i64 0, .int .i64 0, .int .i64 0] 31)) hb1
  clear za_a za_b
  obtain ⟨za_a, za_b, la1⟩ := rcell f_a1
  obtain ⟨zo_a, zo_b, lo1⟩ := rcell f_o1
  obtain ⟨zz_a, zz_b, lz1⟩ := rcell f_z1
  go_wp2_with fail
  refine (c2 _ (f_a1) (hR.below hB1)).mono ?_
  rintro e w2 ⟨v, rfl, hg2, ho2, hb2⟩
  have B2 := bB hB1 hb2
  have f_o2 := kp hb2 (f_o1)
  have ho2' : OwnB w.heap.size w2 v (l.take (firstS l)) := ho2.base (hB1).size
  obtain ⟨zo_a, zo_b, lo2⟩ := rcell f_o2
  go_wp2_with fail
  refine (cW _ _ _ hg2 ho2' B2).mono ?_
  rintro e w3 ⟨rfl, hb3⟩
  have f_o3 := kp hb3 (f_o2)
  have hB3 := bB B2 hb3
  clear zo_a zo_b
  obtain ⟨zo_a, zo_b, lo3⟩ := rcell f_o3
  go_wp2_with fail
  (rw [row4 (f_o3)]; generalize hT : setRow _ _ _ = wE; obtain ⟨hbE, hgE⟩ := ret_row hB3 (by omega) (f_o3) hT; have zE := (rcell hgE).1; clear hT; refine bodyPost_ret (by simp [results, Tryd.results78, go_sem, zE]; try rfl) rfl ?_)
  exact ⟨rfl, hbE⟩

set_option maxRecDepth 100000 in
set_option maxHeartbeats 1000000 in
theorem whole_l_no (A : Option Addr) (c : Nat) (l : List Bd) (h : okB l = false) (w : World) (hR : BR w A c l) :
    Calls Tryd.prog 41 #[.slice A l.length c, .func (Fn.func 42) #[] #[]] w fun e w' => e = .returned (.tuple #[.agg #[.int .i64 0, .int .i64 0, .int .i64 0, .int .i64 0], .int .i64 180]) ∧ Below w.heap.size w w' := by
  have hmf : ∀ (fn : Fn) (first cap : Array Value) (w : World), (Instr.makeFunc fn first cap).run Tryd.prog w = .ok (.func fn first cap) w := fun _ _ _ _ => rfl
  have c1 := tells_l_no A c l h
  go_enter Tryd.func41, Tryd.ntmps41
  go_wp2_with fail
  refine (c1 _ _ (hR.below (bA (bA (bA (b0 _) _) _) _))).mono ?_
  rintro e w1 ⟨rfl, hb1⟩
  have f_p1 := kp hb1 (ka (ka (na w #[.slice A l.length c] 22) (.cells #[.func (Fn.func 42) #[] #[]] 86)) (.cells #[.int .i64 0, .int .i64 0, .int .i64 0, .int .i64 0] 31))
  have f_f1 := kp hb1 (ka (na1 w (.cells #[.slice A l.length c] 22) #[.func (Fn.func 42) #[] #[]] 86) (.cells #[.int .i64 0, .int .i64 0, .int .i64 0, .int .i64 0] 31))
  have f_o1 := kp hb1 (na2 w (.cells #[.slice A l.length c] 22) (.cells #[.func (Fn.func 42) #[] #[]] 86) #[.int .i64 0, .int .i64 0, .int .i64 0, .int .i64 0] 31)
  have hB1 := bB (bA (bA (bA (b0 w) (.cells #[.slice A l.length c] 22)) (.cells #[.func (Fn.func 42) #[] #[]] 86)) (.cells #[.int .i64 0, .int .i64 0, .int .i64 0, .int .i64 0] 31)) hb1
  obtain ⟨zp_a, zp_b, lp1⟩ := rcell f_p1
  obtain ⟨zf_a, zf_b, lf1⟩ := rcell f_f1
  obtain ⟨zo_a, zo_b, lo1⟩ := rcell f_o1
  go_wp2_with fail
  (rw [row4 (f_o1)]; generalize hT : setRow _ _ _ = wE; obtain ⟨hbE, hgE⟩ := ret_row hB1 (by omega) (f_o1) hT; have zE := (rcell hgE).1; clear hT; refine bodyPost_ret (by simp [results, Tryd.results41, go_sem, zE]; try rfl) rfl ?_)
  exact ⟨rfl, hbE⟩

set_option maxRecDepth 100000 in
set_option maxHeartbeats 1000000 in
theorem whole_l_short (A : Option Addr) (c : Nat) (l : List Bd) (h : okB l = true) (ho : firstS l < l.length) (w : World) (hall : w.heap[0]? = some (.cells all4 ta (0, 0))) (hR : BR w A c l) :
    Calls Tryd.prog 41 #[.slice A l.length c, .func (Fn.func 42) #[] #[]] w fun e w' => e = .returned (.tuple #[.agg #[.int .i64 0, .int .i64 0, .int .i64 0, .int .i64 0], .int .i64 181]) ∧ Below w.heap.size w w' := by
  have hmf : ∀ (fn : Fn) (first cap : Array Value) (w : World), (Instr.makeFunc fn first cap).run Tryd.prog w = .ok (.func fn first cap) w := fun _ _ _ _ => rfl
  have htl : (l.take (firstS l)).length = firstS l := by rw [List.length_take]; omega
  go_enter Tryd.func41, Tryd.ntmps41
  obtain ⟨za_a, za_b, la0⟩ := rcell hall
  have hP := (ka (ka (na w #[.slice A l.length c] 22) (.cells #[.func (Fn.func 42) #[] #[]] 86)) (.cells #[.int .i64 0, .int .i64 0, .int .i64 0, .int .i64 0] 31))
  have cT := fun w' (hb : Below _ _ w') => tells_l_yes (w.heap.size) (w.heap.size + 1) c A l h 0 0 0 0 181 w' (kp hb (ka (ka (ka (hall) (.cells #[.slice A l.length c] 22)) (.cells #[.func (Fn.func 42) #[] #[]] 86)) (.cells #[.int .i64 0, .int .i64 0, .int .i64 0, .int .i64 0] 31))) (hR.below (bB (bA (bA (bA (b0 _) _) _) _) hb)) (fun g v w1 hg hov hb1 => by
    obtain ⟨A', c', rfl, -⟩ := hov.br
    rw [htl] at hg
    exact whole1_l_short g _ _ (firstS l) l.length c' c A' A _ (.int .i64 0) ho w1 hg (kp hb1 (kp hb hP)))
  go_wp2_with fail
  refine (cT _ (b0 _)).mono ?_
  rintro e w1 ⟨rfl, hb1⟩
  have f_a1 := kp hb1 (ka (ka (ka (hall) (.cells #[.slice A l.length c] 22)) (.cells #[.func (Fn.func 42) #[] #[]] 86)) (.cells #[.int .i64 0, .int .i64 0, .int .i64 0, .int .i64 0] 31))
  have f_p1 := kp hb1 (ka (ka (na w #[.slice A l.length c] 22) (.cells #[.func (Fn.func 42) #[] #[]] 86)) (.cells #[.int .i64 0, .int .i64 0, .int .i64 0, .int .i64 0] 31))
  have f_f1 := kp hb1 (ka (na1 w (.cells #[.slice A l.length c] 22) #[.func (Fn.func 42) #[] #[]] 86) (.cells #[.int .i64 0, .int .i64 0, .int .i64 0, .int .i64 0] 31))
  have f_o1 := kp hb1 (na2 w (.cells #[.slice A l.length c] 22) (.cells #[.func (Fn.func 42) #[] #[]] 86) #[.int .i64 0, .int .i64 0, .int .i64 0, .int .i64 0] 31)
  have hB1 := bB (bA (bA (bA (b0 w) (.cells #[.slice A l.length c] 22)) (.cells #[.func (Fn.func 42) #[] #[]] 86)) (.cells #[.int .i64 0, .int .i64 0, .int .i64 0, .int .i64 0] 31)) hb1
  clear za_a za_b
  obtain ⟨za_a, za_b, la1⟩ := rcell f_a1
  obtain ⟨zp_a, zp_b, lp1⟩ := rcell f_p1
  obtain ⟨zf_a, zf_b, lf1⟩ := rcell f_f1
  obtain ⟨zo_a, zo_b, lo1⟩ := rcell f_o1
  go_wp2_with fail
  (rw [row4 (f_o1)]; generalize hT : setRow _ _ _ = wE; obtain ⟨hbE, hgE⟩ := ret_row hB1 (by omega) (f_o1) hT; have zE := (rcell hgE).1; clear hT; refine bodyPost_ret (by simp [results, Tryd.results41, go_sem, zE]; try rfl) rfl ?_)
  exact ⟨rfl, hbE⟩

set_option maxRecDepth 100000 in
set_option maxHeartbeats 1000000 in
theorem whole_l_all (A : Option Addr) (c : Nat) (l : List Bd) (h : okB l = true) (ho : firstS l = l.length) (x0 x1 x2 x3 E : Int) (w : World) (hall : w.heap[0]? = some (.cells all4 ta (0, 0))) (hR : BR w A c l)
    (cS : ∀ g v w1, w1.heap[g]? = some (.cells (fcs (sk l l.length) v) 78 (0, 0)) → OwnB w.heap.size w1 v l → Below w.heap.size w w1 →
      Calls Tryd.prog 42 #[.pointer (some ⟨g, 0, none⟩)] w1 fun e w' => e = .returned (.tuple #[.agg #[.int .i64 x0, .int .i64 x1, .int .i64 x2, .int .i64 x3], .int .i64 E]) ∧ Below w1.heap.size w1 w') :
    Calls Tryd.prog 41 #[.slice A l.length c, .func (Fn.func 42) #[] #[]] w fun e w' => e = .returned (.tuple #[.agg #[.int .i64 x0, .int .i64 x1, .int .i64 x2, .int .i64 x3], .int .i64 E]) ∧ Below w.heap.size w w' := by
  have hmf : ∀ (fn : Fn) (first cap : Array Value) (w : World), (Instr.makeFunc fn first cap).run Tryd.prog w = .ok (.func fn first cap) w := fun _ _ _ _ => rfl
  have CS := hide cS
  clear cS
  go_enter Tryd.func41, Tryd.ntmps41
  obtain ⟨za_a, za_b, la0⟩ := rcell hall
  have hP := (ka (ka (na w #[.slice A l.length c] 22) (.cells #[.func (Fn.func 42) #[] #[]] 86)) (.cells #[.int .i64 0, .int .i64 0, .int .i64 0, .int .i64 0] 31))
  have hQ := (ka (na1 w (.cells #[.slice A l.length c] 22) #[.func (Fn.func 42) #[] #[]] 86) (.cells #[.int .i64 0, .int .i64 0, .int .i64 0, .int .i64 0] 31))
  have hBB := (bA (bA (bA (b0 w) (.cells #[.slice A l.length c] 22)) (.cells #[.func (Fn.func 42) #[] #[]] 86)) (.cells #[.int .i64 0, .int .i64 0, .int .i64 0, .int .i64 0] 31))
  have cT := fun w' (hb : Below _ _ w') => tells_l_yes (w.heap.size) (w.heap.size + 1) c A l h x0 x1 x2 x3 E w' (kp hb (ka (ka (ka (hall) (.cells #[.slice A l.length c] 22)) (.cells #[.func (Fn.func 42) #[] #[]] 86)) (.cells #[.int .i64 0, .int .i64 0, .int .i64 0, .int .i64 0] 31))) (hR.below (bB hBB hb)) (fun g v w1 hg hov hb1 => by
    rw [ho] at hg hov
    rw [List.take_length] at hov
    obtain ⟨A', c', rfl, -⟩ := hov.br
    have hB1 := bB (bB hBB hb) hb1
    exact whole1_l_all g _ _ l.length l.length c' c A' A _ (Nat.le_refl _) w1 hg (kp hb1 (kp hb hP)) (kp hb1 (kp hb hQ)) x0 x1 x2 x3 E (fun w2 hb2 => CS.out g _ w2 (kp hb2 hg) ((hov.base (bB hBB hb).size).lift hb2) (bB hB1 hb2)))
  go_wp2_with fail
  refine (cT _ (b0 _)).mono ?_
  rintro e w1 ⟨rfl, hb1⟩
  have f_a1 := kp hb1 (ka (ka (ka (hall) (.cells #[.slice A l.length c] 22)) (.cells #[.func (Fn.func 42) #[] #[]] 86)) (.cells #[.int .i64 0, .int .i64 0, .int .i64 0, .int .i64 0] 31))
  have f_p1 := kp hb1 (ka (ka (na w #[.slice A l.length c] 22) (.cells #[.func (Fn.func 42) #[] #[]] 86)) (.cells #[.int .i64 0, .int .i64 0, .int .i64 0, .int .i64 0] 31))
  have f_f1 := kp hb1 (ka (na1 w (.cells #[.slice A l.length c] 22) #[.func (Fn.func 42) #[] #[]] 86) (.cells #[.int .i64 0, .int .i64 0, .int .i64 0, .int .i64 0] 31))
  have f_o1 := kp hb1 (na2 w (.cells #[.slice A l.length c] 22) (.cells #[.func (Fn.func 42) #[] #[]] 86) #[.int .i64 0, .int .i64 0, .int .i64 0, .int .i64 0] 31)
  have hB1 := bB (bA (bA (bA (b0 w) (.cells #[.slice A l.length c] 22)) (.cells #[.func (Fn.func 42) #[] #[]] 86)) (.cells #[.int .i64 0, .int .i64 0, .int .i64 0, .int .i64 0] 31)) hb1
  clear za_a za_b
  obtain ⟨za_a, za_b, la1⟩ := rcell f_a1
  obtain ⟨zp_a, zp_b, lp1⟩ := rcell f_p1
  obtain ⟨zf_a, zf_b, lf1⟩ := rcell f_f1
  obtain ⟨zo_a, zo_b, lo1⟩ := rcell f_o1
  go_wp2_with fail
  (rw [row4 (f_o1)]; generalize hT : setRow _ _ _ = wE; obtain ⟨hbE, hgE⟩ := ret_row hB1 (by omega) (f_o1) hT; have zE := (rcell hgE).1; clear hT; refine bodyPost_ret (by simp [results, Tryd.results41, go_sem, zE]; try rfl) rfl ?_)
  exact ⟨rfl, hbE⟩
end Go.Proofs.YtpimkigbdjfjoaaDoor
