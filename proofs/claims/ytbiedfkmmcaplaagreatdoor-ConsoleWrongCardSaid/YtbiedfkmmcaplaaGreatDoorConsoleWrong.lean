/- The table of trailing noughts, out of the laid variables. The tied card of ConsoleWrong (yearbooklaw31): the Go function returns true for every number of pages, every row of commands, and every two texts, and never panics; the listed package variables are as the program's text lays them. -/
import Derived.Test.YtbiedfkmmcaplaaGreatDoorFq
import Derived.Test.YtbiedfkmmcaplaaGreatDoorQd
import Derived.Test.YtbiedfkmmcaplaaGreatDoorGi
import Derived.Test.YtbiedfkmmcaplaaGreatDoorHd
import Derived.Test.YtbiedfkmmcaplaaGreatDoorHj
import Derived.Test.YtbiedfkmmcaplaaGreatDoorWa
import Derived.Test.YtbiedfkmmcaplaaGreatDoorWb
import Derived.Test.YtbiedfkmmcaplaaGreatDoorWc
import Derived.Test.YtbiedfkmmcaplaaGreatDoorWd
import Derived.Test.YtbiedfkmmcaplaaGreatDoorQj
import Derived.Test.YtbiedfkmmcaplaaGreatDoorQi
import Derived.SevenTiedAt
set_option linter.all false
namespace Go.Proofs.YtbiedfkmmcaplaaGreatDoor
open Go.ChangeShapes Go.WideShapes Go.ChangeAt Go.RowKit Go.Joins Go.Shelf
theorem g_D64 : Tryz.prog.globalNamed "math/bits.deBruijn64tab" = some 8 := by kernel_rfl
theorem t_D64 : (Tryz.prog.globals[8]?).map (·.type) = some 631 := by kernel_rfl
theorem cells5 : Tryz.prog.cellsOf 5 = 1 := by kernel_rfl
theorem cells572 : Tryz.prog.cellsOf 631 = 64 := by kernel_rfl
def deb64 : List Int := [0, 1, 56, 2, 57, 49, 28, 3, 61, 58, 42, 50, 38, 29, 17, 4, 62, 47, 59, 36, 45, 43, 51, 22, 53, 39, 33, 30, 24, 18, 12, 5, 63, 55, 48, 27, 60, 41, 37, 16, 46, 35, 44, 21, 52, 32, 23, 11, 54, 26, 40, 15, 34, 20, 31, 10, 25, 14, 19, 9, 13, 8, 7, 6]
theorem deb_of {W : World} (h : laidMetH Tryz.prog laid8 W) : Deb W := by
  rw [MakeChecks.laidMetH_plain _ _ _ laid8_plain] at h
  have h2 := h.tail.tail
  have h3 : Lib.TabIs Tryz.prog W "math/bits.deBruijn64tab" .u8 deb64 := Lib.tabIs_of_head g_D64 t_D64 Tryz.underlying631 Tryz.underlying5 cells5 cells572 h2.tail.tail.tail.tail
  unfold Lib.TabIs World.var? at h3
  rw [g_D64] at h3
  simp only [Option.bind_some] at h3
  unfold Deb World.cell?
  cases hh : W.heap[8]? with
  | none => rw [hh] at h3; cases h3
  | some o =>
    rw [hh] at h3
    cases o with
    | cells cs t f =>
      simp only [Option.some.injEq] at h3
      subst h3
      rfl
    | _ => cases h3
end Go.Proofs.YtbiedfkmmcaplaaGreatDoor

namespace Go.Proofs.YtbiedfkmmcaplaaGreatDoor.consoleWrong
open Go.ChangeShapes Go.WideShapes Go.ChangeAt Go.RowKit Go.Joins Go.Proofs.YtbiedfkmmcaplaaGreatDoor

section
variable {H : Type} {enc : TypeId × Value → H} {P : Program}
theorem trodAll_stays (hl : laidOutB P = true) {W W' : World} (hb : Below W.heap.size W W') {sp : Nat → Bool} : ∀ {ts : List TypeId} {vs : List Value} {ds : List (DataW H)} {ps : List MemPlace}, (∀ t ∈ ts, P.readableRec t = true ∧ t < P.types.size) →
    DataW.TrodAll enc P W 0 (fun _ => true) true ts vs ds ps → (∀ x ∈ ps, x.block < W.heap.size) → (∀ x ∈ ps, sp x.block = true) → DataW.TrodAll enc P W' 0 sp true ts vs ds ps
  | [], [], [], _, _, h, _, _ => h
  | _ :: _, _ :: _, _ :: _, _, hT, ⟨p, q, h1, h2, e⟩, hlt, hs =>
    ⟨p, q, WideElems.Trod_stays hl (hT _ (List.mem_cons.2 (.inl rfl))).1 (hT _ (List.mem_cons.2 (.inl rfl))).2 h1 (fun x hx => hb.same (hlt x (by rw [e]; exact List.mem_append_left _ hx))) (fun x hx => hs x (by rw [e]; exact List.mem_append_left _ hx)),
      trodAll_stays hl hb (fun t ht => hT t (List.mem_cons.2 (.inr ht))) h2 (fun x hx => hlt x (by rw [e]; exact List.mem_append_right _ hx)) (fun x hx => hs x (by rw [e]; exact List.mem_append_right _ hx)), e⟩
end

set_option maxRecDepth 100000 in
theorem met_w (os : Os) : laidMetH Tryz.prog laid8 (tW os).memory := by
  rw [MakeChecks.laidMetH_plain _ _ _ laid8_plain]
  have h1 := w_a os
  have h2 := w_b os
  cases hx : DataW.laidRun Tryz.prog (tW os).memory 8 (laid8.map (·.1)) with
  | none => rw [hx] at h1; cases h1
  | some x =>
    obtain ⟨l, ps⟩ := x
    rw [hx] at h1 h2
    simp only [Option.map_some, Option.some.injEq, Bool.and_eq_true] at h1 h2
    subst h1
    exact laidMet_of_run 8 hx (decide_eq_true (nodupBits_sound h2.1).1) h2.2
set_option maxRecDepth 100000 in
theorem reads_r : (([3, 22, 9, 9] : List TypeId).all fun t => Tryz.prog.readableRec t) = true := by kernel_rfl
theorem reads3 : ∀ t ∈ ([3, 22, 9, 9] : List TypeId), Tryz.prog.readableRec t = true ∧ t < Tryz.prog.types.size := by
  intro t ht
  refine ⟨List.all_eq_true.1 reads_r t ht, ?_⟩
  have hs : Tryz.prog.types.size = 904 := Tryz.types_size
  rw [hs]
  simp only [List.mem_cons, List.mem_nil_iff, or_false] at ht
  rcases ht with rfl | rfl | rfl | rfl <;> decide

set_option maxRecDepth 100000 in
set_option maxHeartbeats 1000000 in
theorem lifted (os : Os) (started : os.Started) (H : Type) (enc : TypeId × Value → H) :
    ReturnsInHanded {} Tryz.checked os 3 .any (fun w args => (Rows.consoleWrongSpec.pre enc Tryz.prog Tryz.f3 [] false w args ∧ laidMetH Tryz.prog laid8 w) ∧ sizedMet enc Tryz.prog Tryz.f3 (OpenSpec.ofChange Rows.consoleWrongSpec) false w args) (Rows.consoleWrongSpec.post enc Tryz.prog Tryz.f3 false true false false) := by
  refine handed_shaped (C := Tryz.checked) (X := fun w _ => laidMetH Tryz.prog laid8 w) (fun _ _ _ hh h => h.of_heap hh) own started (by kernel_rfl) Tryz.func3
    (ChangeSpec.witness_shaped (enc := enc) (C := Tryz.checked) (os := os) (X := fun w _ => laidMetH Tryz.prog laid8 w) false (tB os) tA 8 rfl (World.shaped_of_RefB (w_c os) (w_d os)) (w_e os) (w_f os) (w_g os) (met_w os)) ?_
  intro W base args ds gs before hval0 hW hSh hL
  have hval : ∀ (j : Nat) t v, Tryz.f3.params[j]? = some t → args[j]? = some v → Value.okWide Tryz.prog W .any base t v := hval0
  have hW' := hW
  obtain ⟨p, q, hA0, hV, rfl, hfz, hnd⟩ := hW
  have hA : DataW.TrodAll enc Tryz.prog W 0 (fun _ => true) true Tryz.f3.params.toList args.toList ds p := hA0
  have hlt : ∀ x ∈ p, x.block < W.heap.size := fun x hx => hW'.lt x (List.mem_append_left _ hx)
  have hAk := hA
  rw [Tryz.params3] at hA hval
  obtain ⟨v0, vs0, d0, ds0, p0, q0, hargs, rfl, hp0, h0, r0⟩ := trodAll_cons hA
  obtain ⟨v1, vs1, d1, ds1, p1, q1, rfl, rfl, hp1, h1, r1⟩ := trodAll_cons r0
  obtain ⟨v2, vs2, d2, ds2, p2, q2, rfl, rfl, hp2, h2, r2⟩ := trodAll_cons r1
  obtain ⟨v3, vs3, d3, ds3, p3, q3, rfl, rfl, hp3, h3, r3⟩ := trodAll_cons r2
  obtain ⟨rfl, rfl, rfl⟩ := trodAll_nil r3
  obtain rfl : args = #[v0, v1, v2, v3] := by cases args; simp_all
  obtain ⟨rfl, rfl⟩ := trodVars_none hV
  obtain ⟨pg0, rfl⟩ := okWide_int Tryz.underlying3 (hval 0 3 v0 rfl rfl)
  obtain ⟨X0, n0, C0, rfl⟩ := okWide_slice Tryz.underlying22 (hval 1 22 v1 rfl rfl)
  obtain ⟨s, rfl⟩ := okWide_string Tryz.underlying9 (hval 2 9 v2 rfl rfl)
  obtain ⟨t, rfl⟩ := okWide_string Tryz.underlying9 (hval 3 9 v3 rfl rfl)
  obtain ⟨f0, g0⟩ := h0
  obtain ⟨f1, g1⟩ := h1
  clear hval0
  obtain ⟨pg, e0, hpg⟩ := op_int Tryz.underlying3 g0
  obtain ⟨X, C, cms, e1, hn, hI, hR⟩ := op_cmds g1
  have e0' : ([.int .i64 pg0] : List Value) = [.int .i64 pg] := e0
  have e1' : ([.slice X0 n0 C0] : List Value) = [.slice X cms.length C] := e1
  simp only [List.cons.injEq, Value.int.injEq, Value.slice.injEq, and_true, true_and] at e0' e1'
  obtain ⟨rfl, rfl, rfl⟩ := e1'
  subst e0'
  refine (law_Wrong pg0 cms X0 C0 s t W (laid_of hL hSh) (deb_of hL) hR hI hn).mono fun e' W' ⟨he, hg⟩ => ?_
  subst he
  exact ⟨_, rfl, post_of_below (pa := p) (pv := []) hW' (fun _ _ _ => trodAll_cons_mk (shut_bool Tryz.underlying4 _) trodAll_mk0)
    (fun sp hsp => trodAll_stays F_laid hg (by rw [Tryz.params3]; exact reads3) hAk hlt (fun x hx => hsp x (List.mem_append_left _ hx))) (fun _ _ => rfl) rfl
    hg (ok_one (by kernel_rfl) rfl (okWide_bool_mk Tryz.underlying4 _))⟩

theorem over : Rows.consoleWrongRow.holds Tryz.pinned (OpenSpec.ofChange Rows.consoleWrongSpec) :=
  OpenClaim.holds_of_wide 3 Tryz.f3 rfl rfl rfl rfl rfl rfl rfl ⟨rfl, rfl, rfl, rfl, rfl⟩ rfl rfl rfl rfl rfl (by kernel_rfl) Tryz.func3 closed
    (of_decide_eq_true (by kernel_rfl)) (by unfold Func.isWrapper; first | (rw [if_pos (by decide +kernel)]; kernel_rfl) | (rw [if_neg (by decide +kernel)]; exact ⟨rfl, rfl⟩))
    (fun os started H enc _ => lifted os started H enc)

/-- the statement -/
theorem proved : Rows.ConsoleWrongCardSaid :=
  Claim7.holds_tied_plain_at .later [] [.pinned, .data, .sentinel, .sentinel, .data, .data, .data, .data] true (true, "86eff86750f251418d89d7047139fbf4f24d4e433466dfb3b30ab6f2c06be371") true
    over (fun _ h => by cases h) (by kernel_rfl) (fun _ h => by cases h) tied.tells_tie rfl ⟨rfl, rfl⟩ (by kernel_rfl) rfl
    (fun f fn hf hfn => by
      obtain rfl : f = 3 := Option.some.inj ((show Tryz.prog.funcNamed "yearbook/yearbooklaw31.ConsoleWrong" = some 3 by kernel_rfl).symm.trans hf) |>.symm
      obtain rfl : fn = Tryz.f3 := (Option.some.inj (Tryz.func3.symm.trans hfn)).symm
      exact ⟨by kernel_rfl, fun j t ht => by
        rw [Tryz.params3] at ht
        have hm : t ∈ [3, 22, 9, 9] := by simpa using Array.mem_of_getElem? ht
        have hall : (([3, 22, 9, 9] : List TypeId).all fun u => !Tryz.prog.wantsStandIn u) = true := by kernel_rfl
        exact (show Tryz.prog.wantsStandIn t = false by simpa using List.all_eq_true.1 hall t hm)⟩)
    (goesBy_none _ F_goes)
end Go.Proofs.YtbiedfkmmcaplaaGreatDoor.consoleWrong
