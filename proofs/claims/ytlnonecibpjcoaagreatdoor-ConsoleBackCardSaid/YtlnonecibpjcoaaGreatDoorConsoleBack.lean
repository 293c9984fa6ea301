/- The tied card of ConsoleBack (yearbooklaw31): the Go function returns true for every command and every line, and never panics; the listed package variables are as the program's text lays them. -/
import Derived.Test.YtlnonecibpjcoaaGreatDoorFq
import Derived.Test.YtlnonecibpjcoaaGreatDoorGi
import Derived.Test.YtlnonecibpjcoaaGreatDoorHd
import Derived.Test.YtlnonecibpjcoaaGreatDoorBHj
import Derived.Test.YtlnonecibpjcoaaGreatDoorBWa
import Derived.Test.YtlnonecibpjcoaaGreatDoorBWb
import Derived.Test.YtlnonecibpjcoaaGreatDoorBWc
import Derived.Test.YtlnonecibpjcoaaGreatDoorBWd
import Derived.Test.YtlnonecibpjcoaaGreatDoorQh
import Derived.SevenTiedAt
set_option linter.unusedSimpArgs false
set_option linter.unusedVariables false
set_option linter.unusedSectionVars false
namespace Go.Proofs.YtlnonecibpjcoaaGreatDoor.consoleBack
open Go.ChangeShapes Go.WideShapes Go.ChangeAt Go.RowKit Go.Joins Go.Proofs.YtlnonecibpjcoaaGreatDoor

section
variable {H : Type} {enc : TypeId × Value → H} {P : Program}
theorem trodAll_stays (hl : laidOutB P = true) {W W' : World} (hb : Below W.heap.size W W') {sp : Nat → Bool} : ∀ {ts : List TypeId} {vs : List Value} {ds : List (DataW H)} {ps : List MemPlace}, (∀ t ∈ ts, P.readableRec t = true ∧ t < P.types.size) →
    DataW.TrodAll enc P W 0 (fun _ => true) true ts vs ds ps → (∀ x ∈ ps, x.block < W.heap.size) → (∀ x ∈ ps, sp x.block = true) → DataW.TrodAll enc P W' 0 sp true ts vs ds ps
  | [], [], [], _, _, h, _, _ => h
  | _ :: _, _ :: _, _ :: _, _, hT, ⟨p, q, h1, h2, e⟩, hlt, hs =>
    ⟨p, q, WideElems.Trod_stays hl (hT _ (List.mem_cons.2 (.inl rfl))).1 (hT _ (List.mem_cons.2 (.inl rfl))).2 h1 (fun x hx => hb.same (hlt x (by rw [e]; exact List.mem_append_left _ hx))) (fun x hx => hs x (by rw [e]; exact List.mem_append_left _ hx)),
      trodAll_stays hl hb (fun t ht => hT t (List.mem_cons.2 (.inr ht))) h2 (fun x hx => hlt x (by rw [e]; exact List.mem_append_right _ hx)) (fun x hx => hs x (by rw [e]; exact List.mem_append_right _ hx)), e⟩
end

set_option maxRecDepth 100000 in
theorem met_w (os : Os) : laidMetH Tryz.prog laid8 (tW os).memory := by
  rw [MakeChecks.laidMetH_plain _ _ _ laid8_plain]
  have h1 := w_a os
  have h2 := w_b os
  cases hx : DataW.laidRun Tryz.prog (tW os).memory 8 (laid8.map (·.1)) with
  | none => rw [hx] at h1; cases h1
  | some x =>
    obtain ⟨l, ps⟩ := x
    rw [hx] at h1 h2
    simp only [Option.map_some, Option.some.injEq, Bool.and_eq_true] at h1 h2
    subst h1
    exact laidMet_of_run 8 hx (decide_eq_true (nodupBits_sound h2.1).1) h2.2
set_option maxRecDepth 100000 in
theorem reads_r : (([48, 9] : List TypeId).all fun t => Tryz.prog.readableRec t) = true := by kernel_rfl
theorem reads3 : ∀ t ∈ ([48, 9] : List TypeId), Tryz.prog.readableRec t = true ∧ t < Tryz.prog.types.size := by
  intro t ht
  refine ⟨List.all_eq_true.1 reads_r t ht, ?_⟩
  have hs : Tryz.prog.types.size = 917 := Tryz.types_size
  rw [hs]
  simp only [List.mem_cons, List.mem_nil_iff, or_false] at ht
  rcases ht with rfl | rfl <;> decide

set_option maxRecDepth 100000 in
theorem lifted (os : Os) (started : os.Started) (H : Type) (enc : TypeId × Value → H) :
    ReturnsInHanded {} Tryz.checked os 6 .any (fun w args => (Rows.consoleBackSpec.pre enc Tryz.prog Tryz.f6 [] false w args ∧ laidMetH Tryz.prog laid8 w) ∧ sizedMet enc Tryz.prog Tryz.f6 (OpenSpec.ofChange Rows.consoleBackSpec) false w args) (Rows.consoleBackSpec.post enc Tryz.prog Tryz.f6 false true false false) := by
  refine handed_shaped (C := Tryz.checked) (X := fun w _ => laidMetH Tryz.prog laid8 w) (fun _ _ _ hh h => h.of_heap hh) own started (by kernel_rfl) Tryz.func6
    (ChangeSpec.witness_shaped (enc := enc) (C := Tryz.checked) (os := os) (X := fun w _ => laidMetH Tryz.prog laid8 w) false (tB os) tA 8 rfl (World.shaped_of_RefB (w_c os) (w_d os)) (w_e os) (w_f os) (w_g os) (met_w os)) ?_
  intro W base args ds gs before hval0 hW hSh hL
  have hval : ∀ (j : Nat) t v, Tryz.f6.params[j]? = some t → args[j]? = some v → Value.okWide Tryz.prog W .any base t v := hval0
  have hW' := hW
  obtain ⟨p, q, hA0, hV, rfl, hfz, hnd⟩ := hW
  have hA : DataW.TrodAll enc Tryz.prog W 0 (fun _ => true) true Tryz.f6.params.toList args.toList ds p := hA0
  have hlt : ∀ x ∈ p, x.block < W.heap.size := fun x hx => hW'.lt x (List.mem_append_left _ hx)
  have hAk := hA
  rw [Tryz.params6] at hA hval
  obtain ⟨v0, vs0, d0, ds0, p0, q0, hargs, rfl, hp0, h0, r0⟩ := trodAll_cons hA
  obtain ⟨v1, vs1, d1, ds1, p1, q1, rfl, rfl, hp1, h1, r1⟩ := trodAll_cons r0
  obtain ⟨rfl, rfl, rfl⟩ := trodAll_nil r1
  obtain rfl : args = #[v0, v1] := by cases args; simp_all
  obtain ⟨rfl, rfl⟩ := trodVars_none hV
  obtain ⟨c0, rfl, _⟩ := okWide_struct Tryz.underlying48 (hval 0 48 v0 rfl rfl)
  obtain ⟨s, rfl⟩ := okWide_string Tryz.underlying9 (hval 1 9 v1 rfl rfl)
  obtain ⟨f0, g0⟩ := h0
  clear hval0
  obtain ⟨c, A, ac, M, mc, e0, hci, hkA, hca, hkM, hcm⟩ := op_cmd (cs := c0.toList) g0
  obtain rfl : c0 = c.cs A ac M mc := Array.ext' e0
  refine (law_Back c hci A ac M mc s W (laid_of hL hSh) (deb_of hL) hkA hca hkM hcm).mono fun e' W' ⟨he, hg⟩ => ?_
  subst he
  exact ⟨_, rfl, post_of_below (pa := p) (pv := []) hW' (fun _ _ _ => trodAll_cons_mk (shut_bool Tryz.underlying4 _) trodAll_mk0)
    (fun sp hsp => trodAll_stays consoleTells.F_laid hg (by rw [Tryz.params6]; exact reads3) hAk hlt (fun x hx => hsp x (List.mem_append_left _ hx))) (fun _ _ => rfl) rfl
    hg (ok_one (by kernel_rfl) rfl (okWide_bool_mk Tryz.underlying4 _))⟩

theorem over : Rows.consoleBackRow.holds Tryz.pinned (OpenSpec.ofChange Rows.consoleBackSpec) :=
  OpenClaim.holds_of_wide 6 Tryz.f6 rfl rfl rfl rfl rfl rfl rfl ⟨rfl, rfl, rfl, rfl, rfl⟩ rfl rfl rfl rfl rfl (by kernel_rfl) Tryz.func6 closedR
    (of_decide_eq_true (by kernel_rfl)) (by unfold Func.isWrapper; first | (rw [if_pos (by decide +kernel)]; kernel_rfl) | (rw [if_neg (by decide +kernel)]; exact ⟨rfl, rfl⟩))
    (fun os started H enc _ => lifted os started H enc)

theorem back_tie : Rows.consoleBackRow.laidByTextAt .later Tryz.pinned [.pinned, .data, .sentinel, .sentinel, .data, .data, .data, .data] true :=
  OpenClaim.laidByTextAt_pinned rfl rfl tied.tie7 rfl rfl rfl rfl (fun y hy _e => by
    simp only [Rows.consoleBackRow, List.zip_cons_cons, List.zip_nil_right, List.mem_cons, List.mem_nil_iff, or_false] at hy
    rcases hy with rfl | rfl | rfl | rfl | rfl | rfl | rfl | rfl
    · exact ⟨tied.pin_first, by kernel_rfl⟩
    · cases _e
    · cases _e
    · cases _e
    · cases _e
    · cases _e
    · cases _e
    · cases _e) tied.fits1

/-- the statement -/
theorem proved : Rows.ConsoleBackCardSaid :=
  Claim7.holds_tied_plain_at .later [] [.pinned, .data, .sentinel, .sentinel, .data, .data, .data, .data] true (true, "2e837a69ed693ccbcd638a70959fef5aed422a9627c08699ff0b08b74729eb50") true
    over (fun _ h => by cases h) (by kernel_rfl) (fun _ h => by cases h) back_tie rfl ⟨rfl, rfl⟩ (by kernel_rfl) rfl
    (fun f fn hf hfn => by
      obtain rfl : f = 6 := Option.some.inj ((show Tryz.prog.funcNamed "yearbook/yearbooklaw31.ConsoleBack" = some 6 by kernel_rfl).symm.trans hf) |>.symm
      obtain rfl : fn = Tryz.f6 := (Option.some.inj (Tryz.func6.symm.trans hfn)).symm
      exact ⟨by kernel_rfl, fun j t ht => by
        rw [Tryz.params6] at ht
        have hm : t ∈ [48, 9] := by simpa using Array.mem_of_getElem? ht
        have hall : (([48, 9] : List TypeId).all fun u => !Tryz.prog.wantsStandIn u) = true := by kernel_rfl
        exact (show Tryz.prog.wantsStandIn t = false by simpa using List.all_eq_true.1 hall t hm)⟩)
    (goesBy_none _ consoleTells.F_goes)
end Go.Proofs.YtlnonecibpjcoaaGreatDoor.consoleBack
