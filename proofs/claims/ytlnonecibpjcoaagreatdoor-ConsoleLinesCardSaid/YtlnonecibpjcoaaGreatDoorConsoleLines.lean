/- The closed facts of the row, together. The tied card of ConsoleLines (yearbooklaw31): the Go function returns true for every two commands, and never panics; the listed package variables are as the program's text lays them. -/
import Derived.Test.YtlnonecibpjcoaaGreatDoorHj
import Derived.Test.YtlnonecibpjcoaaGreatDoorLHb
import Derived.JoinedOf
import Derived.Test.YtlnonecibpjcoaaGreatDoorGi
import Derived.Test.YtlnonecibpjcoaaGreatDoorLWb
import Derived.Test.YtlnonecibpjcoaaGreatDoorLWc
import Derived.Test.YtlnonecibpjcoaaGreatDoorLWd
import Derived.Test.YtlnonecibpjcoaaGreatDoorQh
import Derived.SevenTiedAt
set_option linter.all false
set_option maxRecDepth 100000
namespace Go.Proofs.YtlnonecibpjcoaaGreatDoor.consoleLines
open Go.Proofs.YtlnonecibpjcoaaGreatDoor
theorem aW:(Rows.consoleLinesRow.recurses== Tryz.pinned.checked.prog.recurses 5)=true:=by
 have h:=TO
 have e:Rows.consoleLinesRow.unfollowed=true:=rfl
 rw [e] at h
 have h2:Tryz.pinned.checked.prog.unfollowed 5=true:=(beq_iff_eq.1 h).symm
 unfold Program.recurses
 rw [h2]
 rfl
theorem aX:(Rows.consoleLinesRow.plainKeys== Tryz.pinned.checked.prog.plainKeys)=true:=consoleTells.F_plain
theorem closedR:joinedFacts Tryz.pinned.checked.prog 5 Tryz.f5 Rows.consoleLinesSpec Rows.consoleLinesRow=true:=by
 unfold joinedFacts
 simp only [Bool.and_eq_true]
 repeat' apply And.intro
 all_goals first
  | (with_reducible exact aU)
  | (with_reducible exact TO)
  | (with_reducible exact aW)
  | (with_reducible exact aV)
  | (with_reducible exact consoleTells.F_laid)
  | (with_reducible exact consoleTells.F_rowed)
  | (with_reducible exact consoleTells.F_heard)
  | (with_reducible exact consoleTells.F_enter)
  | (with_reducible exact aX)
  | kernel_rfl
end Go.Proofs.YtlnonecibpjcoaaGreatDoor.consoleLines
namespace Go.Proofs.YtlnonecibpjcoaaGreatDoor.consoleLines
open Go.ChangeShapes Go.WideShapes Go.ChangeAt Go.RowKit Go.Joins Go.Proofs.YtlnonecibpjcoaaGreatDoor
section
variable {H:Type} {enc:TypeId×Value->H} {P:Program}
theorem TP (hl:laidOutB P=true) {W W':World} (hb:Below W.heap.size W W') {sp:Nat->Bool}:∀{ts:List TypeId} {vs:List Value} {ds:List (DataW H)} {ps:List MemPlace},(∀t ∈ ts,P.readableRec t=true/\t<P.types.size) ->
  DataW.TrodAll enc P W 0 (fun _=>true) true ts vs ds ps->(∀x ∈ ps,x.block<W.heap.size)->(∀x ∈ ps,sp x.block=true)->DataW.TrodAll enc P W' 0 sp true ts vs ds ps
 | [],[],[],_,_,h,_,_=>h
 | _::_,_::_,_::_,_,hT,⟨p,q,h1,h2,e⟩,hlt,hs=>
  ⟨p,q,WideElems.Trod_stays hl (hT _ (List.mem_cons.2 (.inl rfl))).1 (hT _ (List.mem_cons.2 (.inl rfl))).2 h1 (fun x hx=>hb.same (hlt x (by rw [e];exact List.mem_append_left _ hx))) (fun x hx=>hs x (by rw [e];exact List.mem_append_left _ hx)),
   TP hl hb (fun t ht=>hT t (List.mem_cons.2 (.inr ht))) h2 (fun x hx=>hlt x (by rw [e];exact List.mem_append_right _ hx)) (fun x hx=>hs x (by rw [e];exact List.mem_append_right _ hx)),e⟩
end
theorem met_w (os:Os):laidMetH Tryz.prog FU (tW os).memory:=by
 rw [MakeChecks.laidMetH_plain _ _ _ O6]
 have h1:=w_a os
 have h2:=w_b os
 cases hx:DataW.laidRun Tryz.prog (tW os).memory 8 (FU.map (·.1)) with
 | none=>rw [hx] at h1;cases h1
 | some x=>
  obtain ⟨l,ps⟩:=x
  rw [hx] at h1 h2
  simp only [Option.map_some,Option.some.injEq,Bool.and_eq_true] at h1 h2
  subst h1
  exact laidMet_of_run 8 hx (decide_eq_true (nodupBits_sound h2.1).1) h2.2
theorem aY:(([48,48]:List TypeId).all fun t=>Tryz.prog.readableRec t)=true:=by kernel_rfl
theorem aZ:∀t ∈ ([48,48]:List TypeId),Tryz.prog.readableRec t=true/\t<Tryz.prog.types.size:=by
 intro t ht
 refine ⟨List.all_eq_true.1 aY t ht,?_⟩
 have hs:Tryz.prog.types.size=917:=Tryz.types_size
 rw [hs]
 simp only [List.mem_cons,List.mem_nil_iff,or_false] at ht
 rcases ht with rfl|rfl <;> decide
theorem lifted (os:Os) (started:os.Started) (H:Type) (enc:TypeId×Value->H) :
  ReturnsInHanded {} Tryz.checked os 5 .any (fun w args=>(Rows.consoleLinesSpec.pre enc Tryz.prog Tryz.f5 [] false w args/\laidMetH Tryz.prog FU w)/\sizedMet enc Tryz.prog Tryz.f5 (OpenSpec.ofChange Rows.consoleLinesSpec) false w args) (Rows.consoleLinesSpec.post enc Tryz.prog Tryz.f5 false true false false):=by
 refine ZR (C:=Tryz.checked) (X:=fun w _=>laidMetH Tryz.prog FU w) (fun _ _ _ hh h=>h.of_heap hh) own started (by kernel_rfl) Tryz.func5
  (ChangeSpec.witness_shaped (enc:=enc) (C:=Tryz.checked) (os:=os) (X:=fun w _=>laidMetH Tryz.prog FU w) false (tB os) tA 8 rfl (World.shaped_of_RefB (w_c os) (w_d os)) (w_e os) (w_f os) (w_g os) (met_w os)) ?_
 intro W base args ds gs before hval0 hW hSh hL
 have hval:∀(j:Nat) t v,Tryz.f5.params[j]?=some t->args[j]?=some v->Value.okWide Tryz.prog W .any base t v:=hval0
 have hW':=hW
 obtain ⟨p,q,hA0,hV,rfl,hfz,hnd⟩:=hW
 have hA:DataW.TrodAll enc Tryz.prog W 0 (fun _=>true) true Tryz.f5.params.toList args.toList ds p:=hA0
 have hlt:∀x ∈ p,x.block<W.heap.size:=fun x hx=>hW'.lt x (List.mem_append_left _ hx)
 have hAk:=hA
 rw [Tryz.params5] at hA hval
 obtain ⟨v0,vs0,d0,ds0,p0,q0,hargs,rfl,hp0,h0,r0⟩:=trodAll_cons hA
 obtain ⟨v1,vs1,d1,ds1,p1,q1,rfl,rfl,hp1,h1,r1⟩:=trodAll_cons r0
 obtain ⟨rfl,rfl,rfl⟩:=trodAll_nil r1
 obtain rfl:args=#[v0,v1]:=by cases args;simp_all
 obtain ⟨rfl,rfl⟩:=trodVars_none hV
 obtain ⟨c0,rfl,_⟩:=okWide_struct Tryz.underlying48 (hval 0 48 v0 rfl rfl)
 obtain ⟨y0,rfl,_⟩:=okWide_struct Tryz.underlying48 (hval 1 48 v1 rfl rfl)
 obtain ⟨f0,g0⟩:=h0
 obtain ⟨f1,g1⟩:=h1
 clear hval0
 obtain ⟨c,A,ac,M,mc,e0,hci,hkA,hca,hkM,hcm⟩:=YX (cs:=c0.toList) g0
 obtain ⟨d,A2,ac2,M2,mc2,e1,hdi,hkA2,hca2,hkM2,hcm2⟩:=YX (cs:=y0.toList) g1
 obtain rfl:c0=c.cs A ac M mc:=Array.ext' e0
 obtain rfl:y0=d.cs A2 ac2 M2 mc2:=Array.ext' e1
 refine (uF c d hci hdi A ac M mc A2 ac2 M2 mc2 W (ZY hL hSh) (uL hL) hkA hca hkM hcm hkA2 hca2 hkM2 hcm2).mono fun e' W' ⟨he,hg⟩=>?_
 subst he
 exact ⟨_,rfl,ZO (pa:=p) (pv:=[]) hW' (fun _ _ _=>trodAll_cons_mk (shut_bool Tryz.underlying4 _) trodAll_mk0)
  (fun sp hsp=>TP consoleTells.F_laid hg (by rw [Tryz.params5];exact aZ) hAk hlt (fun x hx=>hsp x (List.mem_append_left _ hx))) (fun _ _=>rfl) rfl
  hg (ok_one (by kernel_rfl) rfl (okWide_bool_mk Tryz.underlying4 _))⟩
theorem over:Rows.consoleLinesRow.holds Tryz.pinned (OpenSpec.ofChange Rows.consoleLinesSpec) :=
 OpenClaim.holds_of_wide 5 Tryz.f5 rfl rfl rfl rfl rfl rfl rfl ⟨rfl,rfl,rfl,rfl,rfl⟩ rfl rfl rfl rfl rfl (by kernel_rfl) Tryz.func5 closedR
  (of_decide_eq_true (by kernel_rfl)) (by unfold Func.isWrapper;first|(rw [if_pos (by decide+kernel)];kernel_rfl)|(rw [if_neg (by decide+kernel)];exact ⟨rfl,rfl⟩))
  (fun os started H enc _=>lifted os started H enc)
theorem bC:Rows.consoleLinesRow.laidByTextAt .later Tryz.pinned [.pinned,.data,.sentinel,.sentinel,.data,.data,.data,.data] true :=
 OpenClaim.laidByTextAt_pinned rfl rfl tied.tie7 rfl rfl rfl rfl (fun y hy _e=>by
  simp only [Rows.consoleLinesRow,List.zip_cons_cons,List.zip_nil_right,List.mem_cons,List.mem_nil_iff,or_false] at hy
  rcases hy with rfl|rfl|rfl|rfl|rfl|rfl|rfl|rfl
  ·exact ⟨tied.pin_first,by kernel_rfl⟩
  ·cases _e
  ·cases _e
  ·cases _e
  ·cases _e
  ·cases _e
  ·cases _e
  ·cases _e) tied.fits1
theorem proved:Rows.ConsoleLinesCardSaid :=
 Claim7.holds_tied_plain_at .later [] [.pinned,.data,.sentinel,.sentinel,.data,.data,.data,.data] true (true, "2e837a69ed693ccbcd638a70959fef5aed422a9627c08699ff0b08b74729eb50") true
  over (fun _ h=>by cases h) (by kernel_rfl) (fun _ h=>by cases h) bC rfl ⟨rfl,rfl⟩ (by kernel_rfl) rfl
  (fun f fn hf hfn=>by
   obtain rfl:f=5:=Option.some.inj ((show Tryz.prog.funcNamed "yearbook/yearbooklaw31.ConsoleLines"=some 5 by kernel_rfl).symm.trans hf) |>.symm
   obtain rfl:fn=Tryz.f5:=(Option.some.inj (Tryz.func5.symm.trans hfn)).symm
   exact ⟨by kernel_rfl,fun j t ht=>by
    rw [Tryz.params5] at ht
    have hm:t ∈ [48,48]:=by simpa using Array.mem_of_getElem? ht
    have hall:(([48,48]:List TypeId).all fun u=>!Tryz.prog.wantsStandIn u)=true:=by kernel_rfl
    exact (show Tryz.prog.wantsStandIn t=false by simpa using List.all_eq_true.1 hall t hm)⟩)
  (ZQ _ consoleTells.F_goes)
end Go.Proofs.YtlnonecibpjcoaaGreatDoor.consoleLines
