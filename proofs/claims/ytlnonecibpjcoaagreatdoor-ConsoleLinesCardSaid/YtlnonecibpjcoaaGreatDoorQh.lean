/- ConsoleBack: the. -/
import Derived.Test.YtlnonecibpjcoaaGreatDoorQm
import Derived.Test.YtlnonecibpjcoaaGreatDoorFq
set_option linter.all false
set_option maxRecDepth 100000
set_option maxHeartbeats 16000000
namespace Go.Proofs.YtlnonecibpjcoaaGreatDoor
open Go.RowKit
attribute [local go_sem] Oper.semAt_some
theorem uA (c:Cm) (A:Option Addr) (ac:Nat) (M:Option Addr) (mc:Nat):(c.cs A ac M mc).all (·.oneCell')=true:=BB _ _ _ _ _ _
structure CmIn (c:Cm):Prop where
 n:AF c.n
 me:AF c.me
 mf:AF c.mf
 ms:AF c.ms
 qa:AF c.qa
 qb:AF c.qb
 qN:AF c.qN
 t:AF c.t
 bits:0<=c.bits/\c.bits<18446744073709551616
 masks:∀x ∈ c.masks,AF x
 pts:∀p ∈ c.pts,AF p.1/\AF p.2
theorem uB {c:Cm} (h:CmIn c):CmOK (M0 c) :=
 ⟨h.n,h.me,h.mf,h.ms,h.qa,h.qb,h.qN,h.t,h.bits,fun x hx=>h.masks x (List.mem_of_mem_take hx),fun p hp=>h.pts p (List.mem_of_mem_take hp),
  by show (c.masks.take 310).length<=1000;rw [List.length_take];omega,by show (c.pts.take 40).length<=1000;rw [List.length_take];omega⟩
theorem uC {c:Cm} (h:JN c=false):D1 c:=by
 unfold JN at h
 simp only [Bool.or_eq_false_iff,decide_eq_false_iff_not] at h
 exact ⟨by omega,by omega,by omega⟩
noncomputable def M8 (a b:Cm):Bool:=@decide (a=b) (Classical.propDecidable _)
theorem YQ {a b:Cm} {t:Bool} (h:t=true↔a=b):t=M8 a b:=by
 unfold M8
 by_cases e:a=b
 ·rw [h.2 e,@decide_eq_true _ (Classical.propDecidable _) e]
 ·cases t
  ·exact (@decide_eq_false _ (Classical.propDecidable _) e).symm
  ·exact absurd (h.1 rfl) e
theorem YR (a:Cm):M8 a a=true:=@decide_eq_true _ (Classical.propDecidable _) rfl
def CmV (c:Cm) (v:Value) (w:World):Prop:=∃Y:Array Value,v=.agg Y/\Y.size=19/\Y.all (·.oneCell')=true/\∃A ac M mc,Y=c.cs A ac M mc/\RK 99 2 w A c.pts.length ac (AU c.pts)/\RK 3 1 w M c.masks.length mc (AH c.masks)
theorem OV (c:Cm) {v:Value}:Abs.Cl (fun _=>False) (CmV c v):=by
 intro w w' ⟨Y,e,h1,h2,A,ac,M,mc,h3,hA,hM⟩ h
 refine ⟨Y,e,h1,h2,A,ac,M,mc,h3,⟨hA.len,hA.cap,hA.top,fun hl=>?_⟩,⟨hM.len,hM.cap,hM.top,fun hl=>?_⟩⟩
 ·obtain ⟨g,o,cur,e1,hg,hc⟩:=hA.mem hl
  exact ⟨g,o,cur,e1,(h.block g (Array.getElem?_eq_some_iff.1 hg).1 (fun hf=>hf)).trans hg,hc⟩
 ·obtain ⟨g,o,cur,e1,hg,hc⟩:=hM.mem hl
  exact ⟨g,o,cur,e1,(h.block g (Array.getElem?_eq_some_iff.1 hg).1 (fun hf=>hf)).trans hg,hc⟩
theorem CmV.below {c:Cm} {v:Value} {w w':World} (h:CmV c v w) (hb:Below w.heap.size w w'):CmV c v w':=by
 obtain ⟨Y,e,h1,h2,A,ac,M,mc,h3,hA,hM⟩:=h
 exact ⟨Y,e,h1,h2,A,ac,M,mc,h3,hA.below hb,hM.below hb⟩
theorem CmV.exc {c:Cm} {v:Value} {w w':World} {q:Nat} {cs:Array Value} (h:CmV c v w) (hx:Exc q w w') (hq:w.heap[q]?=some (.cells cs 48 (0,0))):CmV c v w':=by
 obtain ⟨Y,e,h1,h2,A,ac,M,mc,h3,hA,hM⟩:=h
 exact ⟨Y,e,h1,h2,A,ac,M,mc,h3,hA.exc hx hq (by decide),hM.exc hx hq (by decide)⟩
theorem OW {a b:Cm} {Y Z:Array Value} {w:World} (h1:CmV a (.agg Y) w) (h2:CmV b (.agg Z) w):Calls Tryz.prog 12 #[.agg Y,.agg Z] w fun e w'=>e=.returned (.bool (M8 a b))/\Below w.heap.size w w':=by
 obtain ⟨Y',e,-,-,A,ac,M,mc,h3,hA,hM⟩:=h1
 obtain ⟨Z',e',-,-,A2,ac2,M2,mc2,h4,hA2,hM2⟩:=h2
 obtain rfl:=Value.agg.inj e
 obtain rfl:=Value.agg.inj e'
 rw [h3,h4]
 refine (XU a b A ac M mc A2 ac2 M2 mc2 w hA hM hA2 hM2).mono ?_
 rintro e w' ⟨t,rfl,ht,hb⟩
 exact ⟨by rw [YQ ht],hb⟩
theorem YS {a b:Cm} {Y Z:Array Value} {w:World} (h1:CmV a (.agg Y) w) (h2:CmV b (.agg Z) w):Calls Tryz.prog 13 #[.agg Y,.agg Z] w fun e w'=>e=.returned (.bool (M8 a b))/\Below w.heap.size w w':=by
 obtain ⟨Y',e,-,-,A,ac,M,mc,h3,hA,hM⟩:=h1
 obtain ⟨Z',e',-,-,A2,ac2,M2,mc2,h4,hA2,hM2⟩:=h2
 obtain rfl:=Value.agg.inj e
 obtain rfl:=Value.agg.inj e'
 rw [h3,h4]
 refine (IM a b A ac M mc A2 ac2 M2 mc2 w hA hM hA2 hM2).mono ?_
 rintro e w' ⟨t,rfl,ht,hb⟩
 exact ⟨by rw [YQ ht],hb⟩
theorem YT (x:Cm) (A:Option Addr) (ac:Nat) (M:Option Addr) (mc:Nat) (w:World) (hA:InK w A x.pts.length 2 (AU x.pts)) (hac:x.pts.length<=ac) (hM:InK w M x.masks.length 1 (AH x.masks)) (hmc:x.masks.length<=mc) :
  Calls Tryz.prog 14 #[.agg (x.cs A ac M mc)] w fun e w'=>∃v,e=.returned v/\Below w.heap.size w w'/\CmV (M0 x) v w':=by
 refine (rY x A ac M mc w hA hac hM hmc).mono ?_
 rintro e w' ⟨v,rfl,⟨A4,ac4,M4,mc4,rfl,h1,h2⟩,hb⟩
 exact ⟨_,rfl,hb,_,rfl,rfl,uA _ _ _ _ _,A4,ac4,M4,mc4,rfl,h1,h2⟩
theorem uD {a:Cm} (hc:CmOK a) (hs:D1 a) {Y:Array Value} {w:World} (hL:Laid w) (hD:Deb w) (h1:CmV a (.agg Y) w):Calls Tryz.prog 16 #[.agg Y] w fun e w'=>∃r,YJ r e/\IL a r/\Below w.heap.size w w':=by
 obtain ⟨Y',e,-,-,A,ac,M,mc,h3,hA,hM⟩:=h1
 obtain rfl:=Value.agg.inj e
 rw [h3]
 exact tD a hc hs A ac M mc w hL hD hA hM
theorem uE {a:Cm} (hc:CmOK a) (hs:D1 a) (hm:a.masks.length<=310) (hp:a.pts.length<=40) {Y:Array Value} {w:World} (h1:CmV a (.agg Y) w):Calls Tryz.prog 17 #[.agg Y] w fun e w'=>∃r,G0 r e/\BV a r/\Below w.heap.size w w':=by
 obtain ⟨Y',e,-,-,A,ac,M,mc,h3,hA,hM⟩:=h1
 obtain rfl:=Value.agg.inj e
 rw [h3]
 exact tZ a hc hs hm hp A ac M mc w hA hM
theorem YU {a:Cm} {Y:Array Value} {w:World} (h1:CmV a (.agg Y) w):Calls Tryz.prog 15 #[.agg Y] w fun e w'=>e=.returned (.bool (JN a))/\Below w.heap.size w w':=by
 obtain ⟨Y',e,-,-,A,ac,M,mc,h3,hA,hM⟩:=h1
 obtain rfl:=Value.agg.inj e
 rw [h3]
 exact rZ a A ac M mc w
theorem uF (x y:Cm) (hx:CmIn x) (hy:CmIn y) (A:Option Addr) (ac:Nat) (M:Option Addr) (mc:Nat) (A2:Option Addr) (ac2:Nat) (M2:Option Addr) (mc2:Nat) (w:World) (hL:Laid w) (hD:Deb w)
  (hA:InK w A x.pts.length 2 (AU x.pts)) (hac:x.pts.length<=ac) (hM:InK w M x.masks.length 1 (AH x.masks)) (hmc:x.masks.length<=mc)
  (hA2:InK w A2 y.pts.length 2 (AU y.pts)) (hac2:y.pts.length<=ac2) (hM2:InK w M2 y.masks.length 1 (AH y.masks)) (hmc2:y.masks.length<=mc2) :
  Calls Tryz.prog 5 #[.agg (x.cs A ac M mc),.agg (y.cs A2 ac2 M2 mc2)] w fun e w'=>e=.returned (.bool true)/\Below w.heap.size w w':=by
 have HOK:=AA (uB hx)
 have HL:=AA (fun W (hb:Below w.heap.size w W)=>hL.below hb)
 have HDB:=AA (fun W (hb:Below w.heap.size w W)=>hD.below hb)
 have HFX:=AA (fun W (hb:Below w.heap.size w W)=>YT x A ac M mc W (hA.below hb) hac (hM.below hb) hmc)
 have HFY:=AA (fun W (hb:Below w.heap.size w W)=>YT y A2 ac2 M2 mc2 W (hA2.below hb) hac2 (hM2.below hb) hmc2)
 obtain ⟨a,ha⟩:∃a,a=M0 x:=⟨_,rfl⟩
 obtain ⟨b,hb⟩:∃b,b=M0 y:=⟨_,rfl⟩
 have HM9:Hid (a.masks.length<=310):=AA (by rw [ha];show (x.masks.take 310).length<=310;rw [List.length_take];omega)
 have HP9:Hid (a.pts.length<=40):=AA (by rw [ha];show (x.pts.take 40).length<=40;rw [List.length_take];omega)
 rw [<-ha] at HOK HFX
 rw [<-hb] at HFY
 obtain ⟨X,hX⟩:∃X,X=x.cs A ac M mc:=⟨_,rfl⟩
 have hXs:X.size=19:=by rw [hX];rfl
 obtain ⟨Y,hY⟩:∃Y,Y=y.cs A2 ac2 M2 mc2:=⟨_,rfl⟩
 have hYs:Y.size=19:=by rw [hY];rfl
 rw [<-hX] at HFX ⊢
 rw [<-hY] at HFY ⊢
 have HB1:=AA (bA (bA (b0 w) (.cells X 48)) (.cells Y 48))
 have F1:=AA (kp (bA (b0 _) (.cells Y 48)) (na w X 48))
 have F2:=AA (na1 w X Y 48 48)
 have cw:=Tryz.wakes31 ((w.alloc (.cells X 48)).alloc (.cells Y 48)) (hL.below HB1.out)
 clear hx hy hL hD hA hac hM hmc hA2 hac2 hM2 hmc2 hX hY ha hb
 go_enter Tryz.func5,Tryz.ntmps5
 go_wp2_with fail
 refine cw.mono ?_
 rintro e w3 ⟨rfl,hb3⟩
 have HB3:=AA (bB HB1.out hb3)
 have f1:=kp hb3 F1.out
 have f2:=kp hb3 F2.out
 clear cw hb3 F1 F2 HB1
 go_wp2_with fail
 refine Abs.wp_region_abs (Abs.cls _ (fun _=>False)) [0,1,2,3,4,5,6,7] (by kernel_rfl) (by kernel_rfl) (Below.refl _ _).drew ?_
 (refine Abs.step_load (v:=.agg X) rfl rfl (by kernel_rfl) rfl (fun w0 hI=>?_) (fun K hK=>?_);(· have hf:=kp hI f1;exact CA rfl rfl hf _ rfl Tryz.underlying48 (by rw [AE,hXs]));(simp only [Act.put,lA1,lZ1,lS1];refine hK _ _ ?_;clear hK K))
 (refine Abs.step_call (f:=?_) (args:=?_) rfl rfl rfl rfl (CmV a) (fun _=>OV _) (fun w0=>?_) (fun w0 hI hF=>?_) (fun K hK v w0 hv=>?_);rotate_left 2;(· go_simp;(constructor <;> rfl));(· exact HFX.out _ (bB HB3.out hI));(obtain ⟨Ya,rfl,hYas,hYa1,-⟩:=hv;clear w0;simp only [Act.put,lA1,lZ1,lS1];refine hK _ _ ?_;clear hK K))
 (refine Abs.step_load (v:=.agg Y) rfl rfl (by kernel_rfl) rfl (fun w0 hI=>?_) (fun K hK=>?_);(· have hf:=kp hI f2;exact CA rfl rfl hf _ rfl Tryz.underlying48 (by rw [AE,hYs]));(simp only [Act.put,lA1,lZ1,lS1];refine hK _ _ ?_;clear hK K))
 (refine Abs.step_call (f:=?_) (args:=?_) rfl rfl rfl rfl (CmV b) (fun _=>OV _) (fun w0=>?_) (fun w0 hI hF=>?_) (fun K hK v w0 hv=>?_);rotate_left 2;(· go_simp;(constructor <;> rfl));(· exact HFY.out _ (bB HB3.out hI));(obtain ⟨Yb,rfl,hYbs,hYb1,-⟩:=hv;clear w0;simp only [Act.put,lA1,lZ1,lS1];refine hK _ _ ?_;clear hK K))
 (refine Abs.step_new (f:=fun g=>.pointer (some ⟨g,0,none⟩)) (obj:=?_) rfl rfl rfl rfl (fun w0=>?_) (fun K hK g_a hv_a hu_a=>?_);rotate_left;(· go_simp;rfl);(simp only [Act.put,lA1,lZ1,lS1];refine hK _ _ ?_;clear hK K))
 (refine Abs.step_new (f:=fun g=>.pointer (some ⟨g,0,none⟩)) (obj:=?_) rfl rfl rfl rfl (fun w0=>?_) (fun K hK g_b hv_b hu_b=>?_);rotate_left;(· go_simp;rfl);(simp only [Act.put,lA1,lZ1,lS1];refine hK _ _ ?_;clear hK K))
 have hn:g_b≠g_a:=fun e=>hu_b (Or.inl e)
 (refine Abs.step_store (T:=fun w0=>setRow w0 g_a Ya) rfl rfl rfl (fun w0 hI hF hU=>?_) (fun w0 hI hU hJ=>BY hJ hv_a _) (fun K hK=>?_);(· simp only [Abs.T_setF,Abs.T_addA,Abs.T_push,Abs.T_start];exact BJ rfl rfl rfl ((hF 4).1.2 rfl) (by rw [AE,hYas]) (by rw [hYas];rfl) hYa1);(simp only [Act.put,lA1,lZ1,lS1];refine hK _ _ ?_;clear hK K))
 (refine Abs.step_store (T:=fun w0=>setRow (setRow w0 g_a Ya) g_b Yb) rfl rfl rfl (fun w0 hI hF hU=>?_) (fun w0 hI hU hJ=>BY hJ hv_b _) (fun K hK=>?_);(· simp only [Abs.T_setF,Abs.T_addA,Abs.T_push,Abs.T_start];exact BJ rfl rfl rfl (((BD _ hn).trans ((hF 5).2 rfl))) (by rw [AE,hYbs]) (by rw [hYbs];rfl) hYb1);(simp only [Act.put,lA1,lZ1,lS1];refine hK _ _ ?_;clear hK K))
 intro w0 hI hF hx1 hx2
 have qa:=(hF 4).1.2 rfl
 have qb:=(hF 5).2 rfl
 have va:=(hF 1).1.1.1.2 rfl
 have vb:=(hF 3).1.1.2 rfl
 clear hx1 hx2 hF
 simp only [Abs.T_setF,Abs.T_addA,Abs.T_push,Abs.T_start]
 have hv_a2:w3.heap.size<=g_a:=hv_a
 have hv_b2:w3.heap.size<=g_b:=hv_b
 generalize hTa:setRow w0 g_a _=wa
 obtain ⟨hxa,-⟩:=AK (b0 w0) qa hTa
 obtain ⟨hba,fa5⟩:=BZ hI hv_a2 qa hTa
 have qb2:=(congrArg (fun W:World=>W.heap[g_b]?) hTa).symm.trans ((BD _ hn).trans qb)
 generalize hTb:setRow wa g_b _=w5
 obtain ⟨hxb,-⟩:=AK (b0 wa) qb2 hTb
 obtain ⟨hb5,fb5⟩:=BZ hba hv_b2 qb2 hTb
 replace fa5:=(congrArg (fun W:World=>W.heap[g_a]?) hTb).symm.trans ((BD _ (Ne.symm hn)).trans fa5)
 have VA:=AA ((va.exc hxa qa).exc hxb qb2)
 have VB:=AA ((vb.exc hxa qa).exc hxb qb2)
 have HB5:=AA (bB HB3.out hb5)
 replace f1:=kp hb5 f1
 clear qa qb qb2 va vb hTa hTb hba hb5 hI hv_a hv_b hv_a2 hv_b2 hu_a hu_b hn hxa hxb f2 HB3 HFY
 obtain ⟨ga,hga⟩:∃ga,ga=g_a:=⟨_,rfl⟩
 obtain ⟨gb,hgb⟩:∃gb,gb=g_b:=⟨_,rfl⟩
 rw [<-hga] at fa5 ⊢
 rw [<-hgb] at fb5 ⊢
 clear hga hgb
 go_wp2_with (refine DU rfl _ _ rfl ga 48 Ya rfl fa5 _ rfl Tryz.underlying48 (by rw [AE,hYas]) ?_;simp only [Act.put,lA1,lZ1,lS1])
 refine (YU VA.out).mono ?_
 rintro e w6 ⟨rfl,hb6⟩
 have HB6:=AA (bB HB5.out hb6)
 replace VA:=AA (VA.out.below hb6)
 replace VB:=AA (VB.out.below hb6)
 replace f1:=kp hb6 f1
 have fa:=kp hb6 fa5
 have fb:=kp hb6 fb5
 clear hb6 fa5 fb5 HB5
 cases hlg:JN a
 rotate_left
 ·clear hlg
  go_wp2_with fail
  refine Abs.wp_region_abs (Abs.cls0 _) [0,1,2,3,4] (by kernel_rfl) (by kernel_rfl) (Below.refl _ _).drew ?_
  (refine Abs.step_load (v:=.agg Ya) rfl rfl (by kernel_rfl) rfl (fun w0 hI=>?_) (fun K hK=>?_);(· have hf:=kp hI fa;exact CA rfl rfl hf _ rfl Tryz.underlying48 (by rw [AE,hYas]));(simp only [Act.put,lA1,lZ1,lS1];refine hK _ _ ?_;clear hK K))
  (refine Abs.step_load (v:=.agg X) rfl rfl (by kernel_rfl) rfl (fun w0 hI=>?_) (fun K hK=>?_);(· have hf:=kp hI f1;exact CA rfl rfl hf _ rfl Tryz.underlying48 (by rw [AE,hXs]));(simp only [Act.put,lA1,lZ1,lS1];refine hK _ _ ?_;clear hK K))
  (refine Abs.step_call (f:=?_) (args:=?_) rfl rfl rfl rfl (CmV a) (fun _=>OV _) (fun w0=>?_) (fun w0 hI hF=>?_) (fun K hK v w0 hv=>?_);rotate_left 2;(· go_simp;(constructor <;> rfl));(· exact HFX.out _ (bB HB6.out hI));(obtain ⟨Yc,rfl,hYcs,hYc1,-⟩:=hv;clear w0;simp only [Act.put,lA1,lZ1,lS1];refine hK _ _ ?_;clear hK K))
  (refine Abs.step_call (f:=?_) (args:=?_) rfl rfl rfl rfl (fun v _=>v=.bool true) (fun _ _ _ h _=>h) (fun w0=>?_) (fun w0 hI hF=>?_) (fun K hK v w0 hv=>?_);rotate_left 2;(· go_simp;(constructor <;> rfl));(· exact (OW (VA.out.below hI) ((hF 2 (by kernel_rfl)).2 rfl)).mono (fun _ _ h=>⟨_,h.1,h.2,by rw [YR]⟩));(obtain rfl:=hv;clear w0;simp only [Act.put,lA1,lZ1,lS1];refine hK _ _ ?_;clear hK K))
  (refine Abs.step_pure rfl rfl (fun K hK=>?_);go_simp;(try go_bits);(first|refine hK _ _ ?_|(simp only [↓IntWalk.iteOmega];go_simp;(try go_bits);refine hK _ _ ?_));clear hK K)
  (intro w7 hb7 hx0 hx1 hx2;clear hx0 hx1 hx2;simp only [Abs.T_setF,Abs.T_addA,Abs.T_push,Abs.T_start])
  have HBZ:=AA (bB HB6.out hb7)
  go_wp2_with fail
  go_ret
  exact ⟨rfl,HBZ.out⟩
 have HSH:=AA (uC hlg)
 clear hlg
 go_wp2_with (refine DL rfl _ _ rfl gb 48 Yb rfl fb _ rfl Tryz.underlying48 (by rw [AE,hYbs]) ?_;simp only [Act.put,lA1,lZ1,lS1])
 refine (YU VB.out).mono ?_
 rintro e w8 ⟨rfl,hb8⟩
 have HB8:=AA (bB HB6.out hb8)
 replace VA:=AA (VA.out.below hb8)
 replace VB:=AA (VB.out.below hb8)
 replace f1:=kp hb8 f1
 replace fa:=kp hb8 fa
 replace fb:=kp hb8 fb
 clear hb8 HB6
 cases hlg:JN b
 rotate_left
 ·clear hlg
  go_wp2_with fail
  refine Abs.wp_region_abs (Abs.cls0 _) [0,1,2,3,4] (by kernel_rfl) (by kernel_rfl) (Below.refl _ _).drew ?_
  (refine Abs.step_load (v:=.agg Ya) rfl rfl (by kernel_rfl) rfl (fun w0 hI=>?_) (fun K hK=>?_);(· have hf:=kp hI fa;exact CA rfl rfl hf _ rfl Tryz.underlying48 (by rw [AE,hYas]));(simp only [Act.put,lA1,lZ1,lS1];refine hK _ _ ?_;clear hK K))
  (refine Abs.step_load (v:=.agg X) rfl rfl (by kernel_rfl) rfl (fun w0 hI=>?_) (fun K hK=>?_);(· have hf:=kp hI f1;exact CA rfl rfl hf _ rfl Tryz.underlying48 (by rw [AE,hXs]));(simp only [Act.put,lA1,lZ1,lS1];refine hK _ _ ?_;clear hK K))
  (refine Abs.step_call (f:=?_) (args:=?_) rfl rfl rfl rfl (CmV a) (fun _=>OV _) (fun w0=>?_) (fun w0 hI hF=>?_) (fun K hK v w0 hv=>?_);rotate_left 2;(· go_simp;(constructor <;> rfl));(· exact HFX.out _ (bB HB8.out hI));(obtain ⟨Yc,rfl,hYcs,hYc1,-⟩:=hv;clear w0;simp only [Act.put,lA1,lZ1,lS1];refine hK _ _ ?_;clear hK K))
  (refine Abs.step_call (f:=?_) (args:=?_) rfl rfl rfl rfl (fun v _=>v=.bool true) (fun _ _ _ h _=>h) (fun w0=>?_) (fun w0 hI hF=>?_) (fun K hK v w0 hv=>?_);rotate_left 2;(· go_simp;(constructor <;> rfl));(· exact (OW (VA.out.below hI) ((hF 2 (by kernel_rfl)).2 rfl)).mono (fun _ _ h=>⟨_,h.1,h.2,by rw [YR]⟩));(obtain rfl:=hv;clear w0;simp only [Act.put,lA1,lZ1,lS1];refine hK _ _ ?_;clear hK K))
  (refine Abs.step_pure rfl rfl (fun K hK=>?_);go_simp;(try go_bits);(first|refine hK _ _ ?_|(simp only [↓IntWalk.iteOmega];go_simp;(try go_bits);refine hK _ _ ?_));clear hK K)
  (intro w7 hb7 hx0 hx1 hx2;clear hx0 hx1 hx2;simp only [Abs.T_setF,Abs.T_addA,Abs.T_push,Abs.T_start])
  have HBZ:=AA (bB HB8.out hb7)
  go_wp2_with fail
  go_ret
  exact ⟨rfl,HBZ.out⟩
 clear hlg f1 HFX
 go_wp2_with (refine DU rfl _ _ rfl ga 48 Ya rfl fa _ rfl Tryz.underlying48 (by rw [AE,hYas]) ?_;simp only [Act.put,lA1,lZ1,lS1])
 refine (uD HOK.out HSH.out (HL.out _ HB8.out) (HDB.out _ HB8.out) VA.out).mono ?_
 rintro e w9 ⟨r,he,hr,hb9⟩
 have HR:=AA hr
 have HB9:=AA (bB HB8.out hb9)
 replace VA:=AA (VA.out.below hb9)
 replace VB:=AA (VB.out.below hb9)
 replace fa:=kp hb9 fa
 replace fb:=kp hb9 fb
 have cR:=uE HOK.out HSH.out HM9.out HP9.out VA.out
 clear hb9 hr HB8 HL HDB HOK HSH
 cases r with
 | some S=>
  have he:e=.returned (.tuple #[.string S,.int .i64 0]):=he
  subst he
  go_wp2_with (refine DU rfl _ _ rfl ga 48 Ya rfl fa _ rfl Tryz.underlying48 (by rw [AE,hYas]) ?_;simp only [Act.put,lA1,lZ1,lS1])
  refine cR.mono ?_
  rintro e wA ⟨r',he',hr',hbA⟩
  obtain rfl:=YN HR.out hr'
  have he':e=.returned (.tuple #[.string S,.bool true]):=he'
  subst he'
  have HBA:=AA (bB HB9.out hbA)
  replace VA:=AA (VA.out.below hbA)
  replace VB:=AA (VB.out.below hbA)
  replace fa:=kp hbA fa
  replace fb:=kp hbA fb
  have cS:=fun W (hb:Below wA.heap.size wA W)=>OW (VA.out.below hb) (VB.out.below hb)
  have cT:=fun W (hb:Below wA.heap.size wA W)=>YS (VA.out.below hb) (VB.out.below hb)
  clear cR hr' hbA HR HB9
  go_wp2_with fail
  refine Abs.wp_region_abs (Abs.cls0 _) [0,1,2,3,4,5,6,7,8,9,10,11,12,13,14,15,16,17,18,19,20,21,22,23,24,25] (by kernel_rfl) (by kernel_rfl) (Below.refl _ _).drew ?_
  iterate 12 (refine Abs.step_pure rfl rfl (fun K hK=>?_);go_simp;(try go_bits);(first|refine hK _ _ ?_|(simp only [↓IntWalk.iteOmega];go_simp;(try go_bits);refine hK _ _ ?_));clear hK K)
  iterate 2 (refine Abs.step_skip rfl rfl (fun K hK=>?_);(simp only [Act.put,lA1,lZ1,lS1];refine hK _ _ ?_;clear hK K))
  iterate 3 (refine Abs.step_pure rfl rfl (fun K hK=>?_);go_simp;(try go_bits);(first|refine hK _ _ ?_|(simp only [↓IntWalk.iteOmega];go_simp;(try go_bits);refine hK _ _ ?_));clear hK K)
  (refine Abs.step_load (v:=.agg Ya) rfl rfl (by kernel_rfl) rfl (fun w0 hI=>?_) (fun K hK=>?_);(· have hf:=kp hI fa;exact CA rfl rfl hf _ rfl Tryz.underlying48 (by rw [AE,hYas]));(simp only [Act.put,lA1,lZ1,lS1];refine hK _ _ ?_;clear hK K))
  (refine Abs.step_load (v:=.agg Yb) rfl rfl (by kernel_rfl) rfl (fun w0 hI=>?_) (fun K hK=>?_);(· have hf:=kp hI fb;exact CA rfl rfl hf _ rfl Tryz.underlying48 (by rw [AE,hYbs]));(simp only [Act.put,lA1,lZ1,lS1];refine hK _ _ ?_;clear hK K))
  (refine Abs.step_call_val (f:=?_) (args:=?_) (v:=?_) rfl rfl rfl rfl (fun w0=>?_) (fun w0 hI=>?_) (fun K hK=>?_);rotate_left 3;(· go_simp;(constructor <;> rfl));(· exact cS _ hI);(simp only [Act.put,lA1,lZ1,lS1];refine hK _ _ ?_;clear hK K))
  (refine Abs.step_load (v:=.agg Ya) rfl rfl (by kernel_rfl) rfl (fun w0 hI=>?_) (fun K hK=>?_);(· have hf:=kp hI fa;exact CA rfl rfl hf _ rfl Tryz.underlying48 (by rw [AE,hYas]));(simp only [Act.put,lA1,lZ1,lS1];refine hK _ _ ?_;clear hK K))
  (refine Abs.step_load (v:=.agg Yb) rfl rfl (by kernel_rfl) rfl (fun w0 hI=>?_) (fun K hK=>?_);(· have hf:=kp hI fb;exact CA rfl rfl hf _ rfl Tryz.underlying48 (by rw [AE,hYbs]));(simp only [Act.put,lA1,lZ1,lS1];refine hK _ _ ?_;clear hK K))
  (refine Abs.step_call_val (f:=?_) (args:=?_) (v:=?_) rfl rfl rfl rfl (fun w0=>?_) (fun w0 hI=>?_) (fun K hK=>?_);rotate_left 3;(· go_simp;(constructor <;> rfl));(· exact cT _ hI);(simp only [Act.put,lA1,lZ1,lS1];refine hK _ _ ?_;clear hK K))
  iterate 3 (refine Abs.step_pure rfl rfl (fun K hK=>?_);go_simp;(try go_bits);(first|refine hK _ _ ?_|(simp only [↓IntWalk.iteOmega];go_simp;(try go_bits);refine hK _ _ ?_));clear hK K)
  (intro w7 hb7 hx0 hx1 hx2;clear hx0 hx1 hx2;simp only [Abs.T_setF,Abs.T_addA,Abs.T_push,Abs.T_start])
  have HBZ:=AA (bB HBA.out hb7)
  go_wp2_with fail
  go_ret
  exact ⟨rfl,HBZ.out⟩
 | none=>
  have he:e=.returned (.tuple #[.string ⟨#[]⟩,.int .i64 410]):=he
  subst he
  go_wp2_with (refine DU rfl _ _ rfl ga 48 Ya rfl fa _ rfl Tryz.underlying48 (by rw [AE,hYas]) ?_;simp only [Act.put,lA1,lZ1,lS1])
  refine cR.mono ?_
  rintro e wA ⟨r',he',hr',hbA⟩
  obtain rfl:=YN HR.out hr'
  have he':e=.returned (.tuple #[.string ⟨#[]⟩,.bool false]):=he'
  subst he'
  have HBA:=AA (bB HB9.out hbA)
  replace VA:=AA (VA.out.below hbA)
  replace VB:=AA (VB.out.below hbA)
  replace fa:=kp hbA fa
  replace fb:=kp hbA fb
  have cS:=fun W (hb:Below wA.heap.size wA W)=>OW (VA.out.below hb) (VB.out.below hb)
  have cT:=fun W (hb:Below wA.heap.size wA W)=>YS (VA.out.below hb) (VB.out.below hb)
  clear cR hr' hbA HR HB9
  go_wp2_with fail
  refine Abs.wp_region_abs (Abs.cls0 _) [0,1,2,3,4,5,6,7,8,9,10,11,12,13,14,15,16,17,18,19,20,21,22,23,24,25] (by kernel_rfl) (by kernel_rfl) (Below.refl _ _).drew ?_
  iterate 17 (refine Abs.step_pure rfl rfl (fun K hK=>?_);go_simp;(try go_bits);(first|refine hK _ _ ?_|(simp only [↓IntWalk.iteOmega];go_simp;(try go_bits);refine hK _ _ ?_));clear hK K)
  (refine Abs.step_load (v:=.agg Ya) rfl rfl (by kernel_rfl) rfl (fun w0 hI=>?_) (fun K hK=>?_);(· have hf:=kp hI fa;exact CA rfl rfl hf _ rfl Tryz.underlying48 (by rw [AE,hYas]));(simp only [Act.put,lA1,lZ1,lS1];refine hK _ _ ?_;clear hK K))
  (refine Abs.step_load (v:=.agg Yb) rfl rfl (by kernel_rfl) rfl (fun w0 hI=>?_) (fun K hK=>?_);(· have hf:=kp hI fb;exact CA rfl rfl hf _ rfl Tryz.underlying48 (by rw [AE,hYbs]));(simp only [Act.put,lA1,lZ1,lS1];refine hK _ _ ?_;clear hK K))
  (refine Abs.step_call_val (f:=?_) (args:=?_) (v:=?_) rfl rfl rfl rfl (fun w0=>?_) (fun w0 hI=>?_) (fun K hK=>?_);rotate_left 3;(· go_simp;(constructor <;> rfl));(· exact cS _ hI);(simp only [Act.put,lA1,lZ1,lS1];refine hK _ _ ?_;clear hK K))
  (refine Abs.step_load (v:=.agg Ya) rfl rfl (by kernel_rfl) rfl (fun w0 hI=>?_) (fun K hK=>?_);(· have hf:=kp hI fa;exact CA rfl rfl hf _ rfl Tryz.underlying48 (by rw [AE,hYas]));(simp only [Act.put,lA1,lZ1,lS1];refine hK _ _ ?_;clear hK K))
  (refine Abs.step_load (v:=.agg Yb) rfl rfl (by kernel_rfl) rfl (fun w0 hI=>?_) (fun K hK=>?_);(· have hf:=kp hI fb;exact CA rfl rfl hf _ rfl Tryz.underlying48 (by rw [AE,hYbs]));(simp only [Act.put,lA1,lZ1,lS1];refine hK _ _ ?_;clear hK K))
  (refine Abs.step_call_val (f:=?_) (args:=?_) (v:=?_) rfl rfl rfl rfl (fun w0=>?_) (fun w0 hI=>?_) (fun K hK=>?_);rotate_left 3;(· go_simp;(constructor <;> rfl));(· exact cT _ hI);(simp only [Act.put,lA1,lZ1,lS1];refine hK _ _ ?_;clear hK K))
  iterate 3 (refine Abs.step_pure rfl rfl (fun K hK=>?_);go_simp;(try go_bits);(first|refine hK _ _ ?_|(simp only [↓IntWalk.iteOmega];go_simp;(try go_bits);refine hK _ _ ?_));clear hK K)
  (intro w7 hb7 hx0 hx1 hx2;clear hx0 hx1 hx2;simp only [Abs.T_setF,Abs.T_addA,Abs.T_push,Abs.T_start])
  have HBZ:=AA (bB HBA.out hb7)
  go_wp2_with fail
  go_ret
  exact ⟨rfl,HBZ.out⟩
open Go.ChangeShapes Go.WideShapes Go.ChangeAt Go.RowKit Go.Joins Go.Deep
section
variable {H:Type} {enc:TypeId×Value->H} {w:World} {base:Nat} {sp:Nat->Bool} {held:Bool} {fuel:Nat} {cs:List Value} {x:DataW H×List MemPlace}
theorem uG (h:DataW.trod enc Tryz.prog w base sp held fuel 48 cs=some x):∃(a0:Int) (a1_0:Int) (a1_1_0:Int) (a1_1_1:ByteArray) (a1_1_2:Int) (a1_1_3:Int) (a1_1_4:Int) (a1_1_5X:Option Addr) (a1_1_5n:Nat) (a1_1_5C:Nat) (a1_1_5r:List (List Int)) (a1_2_0:Int) (a1_2_1:ByteArray) (a1_2_2:Int) (a1_2_3:Int) (a1_2_4:Int) (a1_2_5:Int) (a1_3:ByteArray) (a1_4:Int) (a1_5:Int) (a2:Int) (a3X:Option Addr) (a3n:Nat) (a3C:Nat) (a3r:List (List Int)),cs=[.int .i64 a0,.int .i64 a1_0,.int .i64 a1_1_0,.string a1_1_1,.int .i64 a1_1_2,.int .i64 a1_1_3,.int .i64 a1_1_4,.slice a1_1_5X a1_1_5n a1_1_5C,.int .i64 a1_2_0,.string a1_2_1,.int .i64 a1_2_2,.int .i64 a1_2_3,.int .i64 a1_2_4,.int .i64 a1_2_5,.string a1_3,.int .i64 a1_4,.int .u64 a1_5,.int .i64 a2,.slice a3X a3n a3C]/\AF a0/\AF a1_0/\AF a1_1_0/\a1_1_1.size<=9223372036854775807/\AF a1_1_2/\AF a1_1_3/\AF a1_1_4/\RowsIn w a1_1_5X a1_1_5n a1_1_5C 2 a1_1_5r/\AF a1_2_0/\a1_2_1.size<=9223372036854775807/\AF a1_2_2/\AF a1_2_3/\AF a1_2_4/\AF a1_2_5/\a1_3.size<=9223372036854775807/\AF a1_4/\(0<=a1_5/\a1_5<18446744073709551616)/\AF a2/\RowsIn w a3X a3n a3C 1 a3r:=by
 obtain ⟨xs,n,_,_,hlen,hxl,hf⟩:=DataW.trod_struct Tryz.underlying48 h
 have hC:Tryz.prog.cellsOf 48=19:=by kernel_rfl
 have hC3:Tryz.prog.cellsOf 3=1:=by kernel_rfl
 have hC29:Tryz.prog.cellsOf 29=16:=by kernel_rfl
 have hC46:Tryz.prog.cellsOf 46=1:=by kernel_rfl
 rw [hC] at hlen
 match cs,hlen,xs,hxl with
 | [c0,c1,c2,c3,c4,c5,c6,c7,c8,c9,c10,c11,c12,c13,c14,c15,c16,c17,c18],_,[y0,y1,y2,y3],_=>
  have k0:DataW.trod enc Tryz.prog w base sp held n 3 ((([c0,c1,c2,c3,c4,c5,c6,c7,c8,c9,c10,c11,c12,c13,c14,c15,c16,c17,c18]:List Value).drop 0).take (Tryz.prog.cellsOf 3))=some y0:=hf 0 _ rfl
  rw [hC3] at k0
  obtain ⟨a0,e0,f0_0⟩:=EJ Tryz.underlying3 k0
  have k1:DataW.trod enc Tryz.prog w base sp held n 29 ((([c0,c1,c2,c3,c4,c5,c6,c7,c8,c9,c10,c11,c12,c13,c14,c15,c16,c17,c18]:List Value).drop 1).take (Tryz.prog.cellsOf 29))=some y1:=hf 1 _ rfl
  rw [hC29] at k1
  obtain ⟨a1_0,a1_1_0,a1_1_1,a1_1_2,a1_1_3,a1_1_4,a1_1_5X,a1_1_5n,a1_1_5C,a1_1_5r,a1_2_0,a1_2_1,a1_2_2,a1_2_3,a1_2_4,a1_2_5,a1_3,a1_4,a1_5,e1,f1_0,f1_1,f1_2,f1_3,f1_4,f1_5,f1_6,f1_7,f1_8,f1_9,f1_10,f1_11,f1_12,f1_13,f1_14,f1_15⟩:=bQ k1
  have k2:DataW.trod enc Tryz.prog w base sp held n 3 ((([c0,c1,c2,c3,c4,c5,c6,c7,c8,c9,c10,c11,c12,c13,c14,c15,c16,c17,c18]:List Value).drop 17).take (Tryz.prog.cellsOf 3))=some y2:=hf 2 _ rfl
  rw [hC3] at k2
  obtain ⟨a2,e2,f2_0⟩:=EJ Tryz.underlying3 k2
  have k3:DataW.trod enc Tryz.prog w base sp held n 46 ((([c0,c1,c2,c3,c4,c5,c6,c7,c8,c9,c10,c11,c12,c13,c14,c15,c16,c17,c18]:List Value).drop 18).take (Tryz.prog.cellsOf 46))=some y3:=hf 3 _ rfl
  rw [hC46] at k3
  obtain ⟨a3X,a3n,a3C,a3r,e3,f3_0⟩:=TT Tryz.underlying46 (by kernel_rfl) (by decide) (fun _ _=>oi3) k3
  refine ⟨a0,a1_0,a1_1_0,a1_1_1,a1_1_2,a1_1_3,a1_1_4,a1_1_5X,a1_1_5n,a1_1_5C,a1_1_5r,a1_2_0,a1_2_1,a1_2_2,a1_2_3,a1_2_4,a1_2_5,a1_3,a1_4,a1_5,a2,a3X,a3n,a3C,a3r,?_,f0_0,f1_0,f1_1,f1_2,f1_3,f1_4,f1_5,f1_6,f1_7,f1_8,f1_9,f1_10,f1_11,f1_12,f1_13,f1_14,f1_15,f2_0,f3_0⟩
  have hh:([c0,c1,c2,c3,c4,c5,c6,c7,c8,c9,c10,c11,c12,c13,c14,c15,c16,c17,c18]:List Value)=((([c0,c1,c2,c3,c4,c5,c6,c7,c8,c9,c10,c11,c12,c13,c14,c15,c16,c17,c18]:List Value).drop 0).take 1)++((([c0,c1,c2,c3,c4,c5,c6,c7,c8,c9,c10,c11,c12,c13,c14,c15,c16,c17,c18]:List Value).drop 1).take 16)++((([c0,c1,c2,c3,c4,c5,c6,c7,c8,c9,c10,c11,c12,c13,c14,c15,c16,c17,c18]:List Value).drop 17).take 1)++((([c0,c1,c2,c3,c4,c5,c6,c7,c8,c9,c10,c11,c12,c13,c14,c15,c16,c17,c18]:List Value).drop 18).take 1):=rfl
  rw [hh,e0,e1,e2,e3]
  rfl
end
theorem YV:∀rows:List (List Int),(∀r ∈ rows,r.length=2/\∀x ∈ r,AF x)->∃ps:List (Int×Int),ps.length=rows.length/\AH rows.flatten=AU ps/\∀p ∈ ps,AF p.1/\AF p.2
 | [],_=>⟨[],rfl,rfl,fun p hp=>by cases hp⟩
 | r::rows,h=>by
  obtain ⟨ps,h1,h2,h3⟩:=YV rows fun q hq=>h q (List.mem_cons_of_mem _ hq)
  obtain ⟨hl,hi⟩:=h r List.mem_cons_self
  match r,hl,hi with
  | [a,b],_,hi=>
   refine ⟨(a,b)::ps,by simp [h1],?_,fun p hp=>?_⟩
   ·rw [List.flatten_cons,PE,h2];rfl
   ·rcases List.mem_cons.1 hp with rfl|hp
    ·exact ⟨hi a (by simp),hi b (by simp)⟩
    ·exact h3 p hp
theorem YW:∀rows:List (List Int),(∀r ∈ rows,r.length=1/\∀x ∈ r,AF x)->rows.flatten.length=rows.length/\∀x ∈ rows.flatten,AF x
 | [],_=>⟨rfl,fun p hp=>by cases hp⟩
 | r::rows,h=>by
  obtain ⟨h1,h3⟩:=YW rows fun q hq=>h q (List.mem_cons_of_mem _ hq)
  obtain ⟨hl,hi⟩:=h r List.mem_cons_self
  match r,hl,hi with
  | [a],_,hi=>
   refine ⟨by simp [h1],fun p hp=>?_⟩
   rw [List.flatten_cons] at hp
   rcases List.mem_append.1 hp with hp|hp
   ·exact hi p hp
   ·exact h3 p hp
theorem YX {H:Type} {enc:TypeId×Value->H} {w:World} {base:Nat} {sp:Nat->Bool} {held:Bool} {fuel:Nat} {cs:List Value} {x:DataW H×List MemPlace} (h:DataW.trod enc Tryz.prog w base sp held fuel 48 cs=some x) :
  ∃(c:Cm) (A:Option Addr) (ac:Nat) (M:Option Addr) (mc:Nat),cs=(c.cs A ac M mc).toList/\CmIn c/\InK w A c.pts.length 2 (AU c.pts)/\c.pts.length<=ac/\InK w M c.masks.length 1 (AH c.masks)/\c.masks.length<=mc:=by
 obtain ⟨a0,b0,c0,c1,c2,c3,c4,pX,pn,pC,pr,d0,d1,d2,d3,d4,d5,e3,e4,e5,a2,mX,mn,mC,mr,rfl,-,-,-,-,i2,i3,i4,hP,-,-,i7,i8,-,ia,-,ib,ic,id2,hM⟩:=uG h
 obtain ⟨ps,p1,p2,p3⟩:=YV pr hP.each
 obtain ⟨m1,m2⟩:=YW mr hM.each
 have hpn:pn=ps.length:=by rw [p1,hP.len]
 have hmn:mn=mr.flatten.length:=by rw [m1,hM.len]
 have kp:=hP.ink
 have km:=hM.ink
 have cp:=hP.cap
 have cm:=hM.cap
 rw [p2] at kp
 subst hpn hmn
 exact ⟨⟨a0,b0,c0,c1,c2,c3,c4,ps,d0,d1,d2,d3,d4,d5,e3,e4,e5,a2,mr.flatten⟩,pX,pC,mX,mC,rfl,
  ⟨id2,i2,i3,i4,i7,i8,ia,ib,ic,m2,p3⟩,kp,cp,km,cm⟩
open Go.ChangeShapes Go.WideShapes Go.ChangeAt Go.RowKit Go.Joins Go.Shelf
theorem YY:Tryz.prog.globalNamed "math/bits.deBruijn64tab"=some 8:=by kernel_rfl
theorem uH:(Tryz.prog.globals[8]?).map (·.type)=some 572:=by kernel_rfl
theorem uI:Tryz.prog.cellsOf 5=1:=by kernel_rfl
theorem uJ:Tryz.prog.cellsOf 572=64:=by kernel_rfl
def uK:List Int:=[0,1,56,2,57,49,28,3,61,58,42,50,38,29,17,4,62,47,59,36,45,43,51,22,53,39,33,30,24,18,12,5,63,55,48,27,60,41,37,16,46,35,44,21,52,32,23,11,54,26,40,15,34,20,31,10,25,14,19,9,13,8,7,6]
theorem uL {W:World} (h:laidMetH Tryz.prog FU W):Deb W:=by
 rw [MakeChecks.laidMetH_plain _ _ _ O6] at h
 have h2:=h.tail.tail
 have h3:Lib.TabIs Tryz.prog W "math/bits.deBruijn64tab" .u8 uK:=Lib.tabIs_of_head YY uH Tryz.underlying572 Tryz.underlying5 uI uJ h2.tail.tail.tail.tail
 unfold Lib.TabIs World.var? at h3
 rw [YY] at h3
 simp only [Option.bind_some] at h3
 unfold Deb World.cell?
 cases hh:W.heap[8]? with
 | none=>rw [hh] at h3;cases h3
 | some o=>
  rw [hh] at h3
  cases o with
  | cells cs t f=>
   simp only [Option.some.injEq] at h3
   subst h3
   rfl
  | _=>cases h3
end Go.Proofs.YtlnonecibpjcoaaGreatDoor
