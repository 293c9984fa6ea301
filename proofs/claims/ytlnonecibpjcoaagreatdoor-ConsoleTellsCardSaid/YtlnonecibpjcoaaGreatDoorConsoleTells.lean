/- The tied card of ConsoleTells (yearbooklaw31): the Go function returns true for every Op and every Reply, and never panics; the listed package variables are as the program's text lays them. -/
import Derived.Test.YtlnonecibpjcoaaGreatDoorFq
import Derived.Test.YtlnonecibpjcoaaGreatDoorGi
import Derived.Test.YtlnonecibpjcoaaGreatDoorHj
import Derived.Test.YtlnonecibpjcoaaGreatDoorHd
import Derived.Test.YtlnonecibpjcoaaGreatDoorWa
import Derived.Test.YtlnonecibpjcoaaGreatDoorWb
import Derived.Test.YtlnonecibpjcoaaGreatDoorWc
import Derived.Test.YtlnonecibpjcoaaGreatDoorWd
import Derived.Test.YtlnonecibpjcoaaGreatDoorLa
import Derived.Test.YtlnonecibpjcoaaGreatDoorRb
import Derived.SevenTiedAt
set_option linter.unusedSimpArgs false
set_option linter.unusedVariables false
set_option linter.unusedSectionVars false
namespace Go.Proofs.YtlnonecibpjcoaaGreatDoor.consoleTells
open Go.ChangeShapes Go.WideShapes Go.ChangeAt Go.RowKit Go.Joins Go.Proofs.YtlnonecibpjcoaaGreatDoor

section
variable {H : Type} {enc : TypeId × Value → H} {P : Program}
theorem trodAll_stays (hl : laidOutB P = true) {W W' : World} (hb : Below W.heap.size W W') {sp : Nat → Bool} : ∀ {ts : List TypeId} {vs : List Value} {ds : List (DataW H)} {ps : List MemPlace}, (∀ t ∈ ts, P.readableRec t = true ∧ t < P.types.size) →
    DataW.TrodAll enc P W 0 (fun _ => true) true ts vs ds ps → (∀ x ∈ ps, x.block < W.heap.size) → (∀ x ∈ ps, sp x.block = true) → DataW.TrodAll enc P W' 0 sp true ts vs ds ps
  | [], [], [], _, _, h, _, _ => h
  | _ :: _, _ :: _, _ :: _, _, hT, ⟨p, q, h1, h2, e⟩, hlt, hs =>
    ⟨p, q, WideElems.Trod_stays hl (hT _ (List.mem_cons.2 (.inl rfl))).1 (hT _ (List.mem_cons.2 (.inl rfl))).2 h1 (fun x hx => hb.same (hlt x (by rw [e]; exact List.mem_append_left _ hx))) (fun x hx => hs x (by rw [e]; exact List.mem_append_left _ hx)),
      trodAll_stays hl hb (fun t ht => hT t (List.mem_cons.2 (.inr ht))) h2 (fun x hx => hlt x (by rw [e]; exact List.mem_append_right _ hx)) (fun x hx => hs x (by rw [e]; exact List.mem_append_right _ hx)), e⟩
end

set_option maxRecDepth 100000 in
theorem met_w (os : Os) : laidMetH Tryz.prog laid8 (tW os).memory := by
  rw [MakeChecks.laidMetH_plain _ _ _ laid8_plain]
  have h1 := w_a os
  have h2 := w_b os
  cases hx : DataW.laidRun Tryz.prog (tW os).memory 8 (laid8.map (·.1)) with
  | none => rw [hx] at h1; cases h1
  | some x =>
    obtain ⟨l, ps⟩ := x
    rw [hx] at h1 h2
    simp only [Option.map_some, Option.some.injEq, Bool.and_eq_true] at h1 h2
    subst h1
    exact laidMet_of_run 8 hx (decide_eq_true (nodupBits_sound h2.1).1) h2.2
set_option maxRecDepth 100000 in
theorem reads_r : (([29, 42] : List TypeId).all fun t => Tryz.prog.readableRec t) = true := by kernel_rfl
theorem reads3 : ∀ t ∈ ([29, 42] : List TypeId), Tryz.prog.readableRec t = true ∧ t < Tryz.prog.types.size := by
  intro t ht
  refine ⟨List.all_eq_true.1 reads_r t ht, ?_⟩
  have hs : Tryz.prog.types.size = 917 := Tryz.types_size
  rw [hs]
  simp only [List.mem_cons, List.mem_nil_iff, or_false] at ht
  rcases ht with rfl | rfl <;> decide

set_option maxRecDepth 100000 in
theorem lifted (os : Os) (started : os.Started) (H : Type) (enc : TypeId × Value → H) :
    ReturnsInHanded {} Tryz.checked os 3 .any (fun w args => (Rows.consoleTellsSpec.pre enc Tryz.prog Tryz.f3 [] false w args ∧ laidMetH Tryz.prog laid8 w) ∧ sizedMet enc Tryz.prog Tryz.f3 (OpenSpec.ofChange Rows.consoleTellsSpec) false w args) (Rows.consoleTellsSpec.post enc Tryz.prog Tryz.f3 false true false false) := by
  refine handed_shaped (C := Tryz.checked) (X := fun w _ => laidMetH Tryz.prog laid8 w) (fun _ _ _ hh h => h.of_heap hh) own started (by kernel_rfl) Tryz.func3
    (ChangeSpec.witness_shaped (enc := enc) (C := Tryz.checked) (os := os) (X := fun w _ => laidMetH Tryz.prog laid8 w) false (tB os) tA 8 rfl (World.shaped_of_RefB (w_c os) (w_d os)) (w_e os) (w_f os) (w_g os) (met_w os)) ?_
  intro W base args ds gs before hval0 hW hSh hL
  have hval : ∀ (j : Nat) t v, Tryz.f3.params[j]? = some t → args[j]? = some v → Value.okWide Tryz.prog W .any base t v := hval0
  have hW' := hW
  obtain ⟨p, q, hA0, hV, rfl, hfz, hnd⟩ := hW
  have hA : DataW.TrodAll enc Tryz.prog W 0 (fun _ => true) true Tryz.f3.params.toList args.toList ds p := hA0
  have hlt : ∀ x ∈ p, x.block < W.heap.size := fun x hx => hW'.lt x (List.mem_append_left _ hx)
  have hAk := hA
  rw [Tryz.params3] at hA hval
  obtain ⟨v0, vs0, d0, ds0, p0, q0, hargs, rfl, hp0, h0, r0⟩ := trodAll_cons hA
  obtain ⟨v1, vs1, d1, ds1, p1, q1, rfl, rfl, hp1, h1, r1⟩ := trodAll_cons r0
  obtain ⟨rfl, rfl, rfl⟩ := trodAll_nil r1
  obtain rfl : args = #[v0, v1] := by cases args; simp_all
  obtain ⟨rfl, rfl⟩ := trodVars_none hV
  obtain ⟨c0, rfl, _⟩ := okWide_struct Tryz.underlying29 (hval 0 29 v0 rfl rfl)
  obtain ⟨c1, rfl, _⟩ := okWide_struct Tryz.underlying42 (hval 1 42 v1 rfl rfl)
  obtain ⟨f0, g0⟩ := h0
  obtain ⟨f1, g1⟩ := h1
  clear hval0
  obtain ⟨k, mkd, mn, me, mf, ms, mX, mN, mC, mr, qk, qn, qa, qb, qw, qN, nm, t, bits, e0, _⟩ := op29 (cs := c0.toList) g0
  obtain ⟨err, al, X, xn, xc, xr, Y, yn, yc, yr, e1, he, ⟨hal, hax⟩, hX, hY⟩ := op42 (cs := c1.toList) g1
  obtain rfl : c0 = OpV.cs ⟨k, mkd, mn, me, mf, ms, mX, mN, mC, qk, qn, qa, qb, qw, qN, nm, t, bits⟩ := by
    cases c0; simp only at e0; subst e0; rfl
  obtain ⟨a, ha, rfl⟩ : ∃ a : Ans, (∀ x ∈ a.l, i64In x) ∧ c1 = repCs err a X xn xc Y yn yc := by
    match al, hal with
    | [x0, x1, x2, x3, x4, x5, x6, x7, x8], _ =>
      refine ⟨⟨x0, x1, x2, x3, x4, x5, x6, x7, x8⟩, hax, ?_⟩
      cases c1; simp only at e1; subst e1; rfl
  refine (law_Tells _ err he a ha X xn xc xr Y yn yc yr W (laid_of hL hSh) hX hY).mono fun e' W' ⟨he, hg⟩ => ?_
  subst he
  exact ⟨_, rfl, post_of_below (pa := p) (pv := []) hW' (fun _ _ _ => trodAll_cons_mk (shut_bool Tryz.underlying4 _) trodAll_mk0)
    (fun sp hsp => trodAll_stays F_laid hg (by rw [Tryz.params3]; exact reads3) hAk hlt (fun x hx => hsp x (List.mem_append_left _ hx))) (fun _ _ => rfl) rfl
    hg (ok_one (by kernel_rfl) rfl (okWide_bool_mk Tryz.underlying4 _))⟩

theorem over : Rows.consoleTellsRow.holds Tryz.pinned (OpenSpec.ofChange Rows.consoleTellsSpec) :=
  OpenClaim.holds_of_wide 3 Tryz.f3 rfl rfl rfl rfl rfl rfl rfl ⟨rfl, rfl, rfl, rfl, rfl⟩ rfl rfl rfl rfl rfl (by kernel_rfl) Tryz.func3 closed
    (of_decide_eq_true (by kernel_rfl)) (by unfold Func.isWrapper; first | (rw [if_pos (by decide +kernel)]; kernel_rfl) | (rw [if_neg (by decide +kernel)]; exact ⟨rfl, rfl⟩))
    (fun os started H enc _ => lifted os started H enc)

/-- the statement -/
theorem proved : Rows.ConsoleTellsCardSaid :=
  Claim7.holds_tied_plain_at .later [] [.pinned, .data, .sentinel, .sentinel, .data, .data, .data, .data] true (true, "2e837a69ed693ccbcd638a70959fef5aed422a9627c08699ff0b08b74729eb50") true
    over (fun _ h => by cases h) (by kernel_rfl) (fun _ h => by cases h) tied.tells_tie rfl ⟨rfl, rfl⟩ (by kernel_rfl) rfl
    (fun f fn hf hfn => by
      obtain rfl : f = 3 := Option.some.inj ((show Tryz.prog.funcNamed "yearbook/yearbooklaw31.ConsoleTells" = some 3 by kernel_rfl).symm.trans hf) |>.symm
      obtain rfl : fn = Tryz.f3 := (Option.some.inj (Tryz.func3.symm.trans hfn)).symm
      exact ⟨by kernel_rfl, fun j t ht => by
        rw [Tryz.params3] at ht
        have hm : t ∈ [29, 42] := by simpa using Array.mem_of_getElem? ht
        have hall : (([29, 42] : List TypeId).all fun u => !Tryz.prog.wantsStandIn u) = true := by kernel_rfl
        exact (show Tryz.prog.wantsStandIn t = false by simpa using List.all_eq_true.1 hall t hm)⟩)
    (goesBy_none _ F_goes)
end Go.Proofs.YtlnonecibpjcoaaGreatDoor.consoleTells
