/- The console's la. -/
import Derived.Test.YtlnonecibpjcoaaGreatDoorQa
set_option linter.all false
set_option maxRecDepth 100000
set_option maxHeartbeats 40000000
namespace Go.Proofs.YtlnonecibpjcoaaGreatDoor
open Go.RowKit
attribute [local go_sem] Oper.semAt_some
theorem SQ {w w0:World} {ad:Addr} {l:List Int} (h:InV w (some ad) (AH l)) (hb:Below w.heap.size w w0) (i:Nat) (hi:i<l.length):w0.cell? (ad.add i)=some (.int .i64 l[i]):=by
 obtain ⟨ad',e,-,hc⟩:=(h.below hb) (by rw [BL];omega)
 obtain rfl:=Option.some.inj e
 rw [hc i (by rw [BL];omega)]
 simp [AH]
theorem tL (x y:Cm) (A:Option Addr) (ac:Nat) (M:Option Addr) (mc:Nat) (A2:Option Addr) (ac2:Nat) (M2:Option Addr) (mc2:Nat) (w:World) (h1:RK 99 2 w A x.pts.length ac (AU x.pts)) (h2:RK 3 1 w M x.masks.length mc (AH x.masks)) (h3:RK 99 2 w A2 y.pts.length ac2 (AU y.pts)) (h4:RK 3 1 w M2 y.masks.length mc2 (AH y.masks)) :
  Calls Tryz.prog 13 #[.agg (x.cs A ac M mc),.agg (y.cs A2 ac2 M2 mc2)] w (B0 (x=y) w):=by
 have l1:x.pts.length<=9223372036854775807:=Nat.le_trans h1.cap h1.top
 have l2:x.masks.length<=9223372036854775807:=Nat.le_trans h2.cap h2.top
 have l3:y.pts.length<=9223372036854775807:=Nat.le_trans h3.cap h3.top
 have l4:y.masks.length<=9223372036854775807:=Nat.le_trans h4.cap h4.top
 have HA:=AA h1.inK.inV1
 have HM:=AA h2.inK.inV1
 have HC:=AA h3.inK.inV1
 have HN:=AA h4.inK.inV1
 clear h1 h2 h3 h4
 obtain ⟨R,hR⟩:∃R:Prop,R=(x=y):=⟨_,rfl⟩
 rw [<-hR]
 unfold Cm.cs
 obtain ⟨x0,x1,x2,x3,x4,x5,x6,xp,x7,x8,x9,x10,x11,x12,x13,x14,x15,x16,xm⟩:=x
 obtain ⟨y0,y1,y2,y3,y4,y5,y6,yp,y7,y8,y9,y10,y11,y12,y13,y14,y15,y16,ym⟩:=y
 simp only at *
 have HR:=AA hR
 clear hR
 generalize hpn:xp.length=pn at *
 generalize hqn:yp.length=qn at *
 generalize hmn:xm.length=mn at *
 generalize hnn:ym.length=nn at *
 have g1:=kp (bA (b0 _) (.cells (AI y0 ⟨y1,y2,y3,y4,y5,y6,A2,qn,ac2,y7,y8,y9,y10,y11,y12,y13,y14,y15⟩ y16 M2 nn mc2) 48)) (na w (AI x0 ⟨x1,x2,x3,x4,x5,x6,A,pn,ac,x7,x8,x9,x10,x11,x12,x13,x14,x15⟩ x16 M mn mc) 48)
 have g2:=na (w.alloc (.cells (AI x0 ⟨x1,x2,x3,x4,x5,x6,A,pn,ac,x7,x8,x9,x10,x11,x12,x13,x14,x15⟩ x16 M mn mc) 48)) (AI y0 ⟨y1,y2,y3,y4,y5,y6,A2,qn,ac2,y7,y8,y9,y10,y11,y12,y13,y14,y15⟩ y16 M2 nn mc2) 48
 have hsz:(w.alloc (.cells (AI x0 ⟨x1,x2,x3,x4,x5,x6,A,pn,ac,x7,x8,x9,x10,x11,x12,x13,x14,x15⟩ x16 M mn mc) 48)).heap.size=w.heap.size+1:=by simp
 rw [hsz] at g2
 unfold AI at g1 g2
 have HB1:Hid (Below w.heap.size w ((w.alloc (.cells (AI x0 ⟨x1,x2,x3,x4,x5,x6,A,pn,ac,x7,x8,x9,x10,x11,x12,x13,x14,x15⟩ x16 M mn mc) 48)).alloc (.cells (AI y0 ⟨y1,y2,y3,y4,y5,y6,A2,qn,ac2,y7,y8,y9,y10,y11,y12,y13,y14,y15⟩ y16 M2 nn mc2) 48))):=AA (bA (bA (b0 w) _) _)
 unfold AI at HB1
 clear hsz
 unfold AI
 go_enter Tryz.func13,Tryz.ntmps13
 iterate 25 go_step
 by_cases he:¬x0=y0
 ·have HNE:=AA (show R->False from fun r=>he (congrArg Cm.kind (Eq.mp HR.out r)))
  have n1:(x0== y0)=false:=beq_eq_false_iff_ne.2 he
  have n3:(x0 != y0)=true:=by simp only [bne,n1,Bool.not_false]
  clear he
  iterate 2 go_step
  refine DC 74 159 (by kernel_rfl) ?_
  intro t1 hs9 h9
  go_wp2_with fail
  refine wp_cond_true (by simp [Act.eval,h9]) ?_
  go_wp2_with fail
  refine bodyPost_ret (v:=.bool false) (by simp [results,Tryz.results13,go_sem,hs9]) rfl (B0.no HNE.out HB1.out)
 replace he:=Classical.not_not.1 he
 subst he
 iterate 12 go_step
 by_cases he:¬x16=y16
 ·have HNE:=AA (show R->False from fun r=>he (congrArg Cm.n (Eq.mp HR.out r)))
  have n1:(x16== y16)=false:=beq_eq_false_iff_ne.2 he
  have n3:(x16 != y16)=true:=by simp only [bne,n1,Bool.not_false]
  clear he
  iterate 2 go_step
  refine DC 74 159 (by kernel_rfl) ?_
  intro t1 hs9 h9
  go_wp2_with fail
  refine wp_cond_true (by simp [Act.eval,h9]) ?_
  go_wp2_with fail
  refine bodyPost_ret (v:=.bool false) (by simp [results,Tryz.results13,go_sem,hs9]) rfl (B0.no HNE.out HB1.out)
 replace he:=Classical.not_not.1 he
 subst he
 iterate 18 go_step
 by_cases he:¬mn=nn
 ·have HNE:=AA (show R->False from fun r=>he (by have:=congrArg (fun c:Cm=>c.masks.length) (Eq.mp HR.out r);simp only at this;omega))
  have n0:¬((mn:Int)=(nn:Int)):=by omega
  have n1:(((mn:Nat):Int)== ((nn:Nat):Int))=false:=beq_eq_false_iff_ne.2 n0
  have n3:(((mn:Nat):Int) != ((nn:Nat):Int))=true:=by simp only [bne,n1,Bool.not_false]
  clear he n0
  iterate 2 go_step
  refine DC 74 159 (by kernel_rfl) ?_
  intro t1 hs9 h9
  go_wp2_with fail
  refine wp_cond_true (by simp [Act.eval,h9]) ?_
  go_wp2_with fail
  refine bodyPost_ret (v:=.bool false) (by simp [results,Tryz.results13,go_sem,hs9]) rfl (B0.no HNE.out HB1.out)
 replace he:=Classical.not_not.1 he
 subst he
 iterate 18 go_step
 by_cases he:¬x1=y1
 ·have HNE:=AA (show R->False from fun r=>he (congrArg Cm.ok (Eq.mp HR.out r)))
  have n1:(x1== y1)=false:=beq_eq_false_iff_ne.2 he
  have n3:(x1 != y1)=true:=by simp only [bne,n1,Bool.not_false]
  clear he
  iterate 2 go_step
  refine DC 74 159 (by kernel_rfl) ?_
  intro t1 hs9 h9
  go_wp2_with fail
  refine wp_cond_true (by simp [Act.eval,h9]) ?_
  go_wp2_with fail
  refine bodyPost_ret (v:=.bool false) (by simp [results,Tryz.results13,go_sem,hs9]) rfl (B0.no HNE.out HB1.out)
 replace he:=Classical.not_not.1 he
 subst he
 iterate 18 go_step
 by_cases he:¬x7=y7
 ·have HNE:=AA (show R->False from fun r=>he (congrArg Cm.qk (Eq.mp HR.out r)))
  have n1:(x7== y7)=false:=beq_eq_false_iff_ne.2 he
  have n3:(x7 != y7)=true:=by simp only [bne,n1,Bool.not_false]
  clear he
  iterate 2 go_step
  refine DC 74 159 (by kernel_rfl) ?_
  intro t1 hs9 h9
  go_wp2_with fail
  refine wp_cond_true (by simp [Act.eval,h9]) ?_
  go_wp2_with fail
  refine bodyPost_ret (v:=.bool false) (by simp [results,Tryz.results13,go_sem,hs9]) rfl (B0.no HNE.out HB1.out)
 replace he:=Classical.not_not.1 he
 subst he
 by_cases he:¬x8=y8
 ·have HNE:=AA (show R->False from fun r=>he (congrArg Cm.qn (Eq.mp HR.out r)))
  have n1:(x8.toList== y8.toList)=false:=eqF he
  have n3:(x8.toList != y8.toList)=true:=by simp only [bne,n1,Bool.not_false]
  clear he
  iterate 2 go_step
  refine DC 74 159 (by kernel_rfl) ?_
  intro t1 hs9 h9
  go_wp2_with fail
  refine wp_cond_true (by simp [Act.eval,h9]) ?_
  go_wp2_with fail
  refine bodyPost_ret (v:=.bool false) (by simp [results,Tryz.results13,go_sem,hs9]) rfl (B0.no HNE.out HB1.out)
 replace he:=Classical.not_not.1 he
 subst he
 by_cases he:¬x9=y9
 ·have HNE:=AA (show R->False from fun r=>he (congrArg Cm.qa (Eq.mp HR.out r)))
  have n1:(x9== y9)=false:=beq_eq_false_iff_ne.2 he
  have n3:(x9 != y9)=true:=by simp only [bne,n1,Bool.not_false]
  clear he
  iterate 2 go_step
  refine DC 74 159 (by kernel_rfl) ?_
  intro t1 hs9 h9
  go_wp2_with fail
  refine wp_cond_true (by simp [Act.eval,h9]) ?_
  go_wp2_with fail
  refine bodyPost_ret (v:=.bool false) (by simp [results,Tryz.results13,go_sem,hs9]) rfl (B0.no HNE.out HB1.out)
 replace he:=Classical.not_not.1 he
 subst he
 by_cases he:¬x10=y10
 ·have HNE:=AA (show R->False from fun r=>he (congrArg Cm.qb (Eq.mp HR.out r)))
  have n1:(x10== y10)=false:=beq_eq_false_iff_ne.2 he
  have n3:(x10 != y10)=true:=by simp only [bne,n1,Bool.not_false]
  clear he
  iterate 2 go_step
  refine DC 74 159 (by kernel_rfl) ?_
  intro t1 hs9 h9
  go_wp2_with fail
  refine wp_cond_true (by simp [Act.eval,h9]) ?_
  go_wp2_with fail
  refine bodyPost_ret (v:=.bool false) (by simp [results,Tryz.results13,go_sem,hs9]) rfl (B0.no HNE.out HB1.out)
 replace he:=Classical.not_not.1 he
 subst he
 by_cases he:¬x11=y11
 ·have HNE:=AA (show R->False from fun r=>he (congrArg Cm.qw (Eq.mp HR.out r)))
  have n1:(x11== y11)=false:=beq_eq_false_iff_ne.2 he
  have n3:(x11 != y11)=true:=by simp only [bne,n1,Bool.not_false]
  clear he
  iterate 2 go_step
  refine DC 74 159 (by kernel_rfl) ?_
  intro t1 hs9 h9
  go_wp2_with fail
  refine wp_cond_true (by simp [Act.eval,h9]) ?_
  go_wp2_with fail
  refine bodyPost_ret (v:=.bool false) (by simp [results,Tryz.results13,go_sem,hs9]) rfl (B0.no HNE.out HB1.out)
 replace he:=Classical.not_not.1 he
 subst he
 by_cases he:¬x12=y12
 ·have HNE:=AA (show R->False from fun r=>he (congrArg Cm.qN (Eq.mp HR.out r)))
  have n1:(x12== y12)=false:=beq_eq_false_iff_ne.2 he
  have n3:(x12 != y12)=true:=by simp only [bne,n1,Bool.not_false]
  clear he
  iterate 2 go_step
  refine DC 74 159 (by kernel_rfl) ?_
  intro t1 hs9 h9
  go_wp2_with fail
  refine wp_cond_true (by simp [Act.eval,h9]) ?_
  go_wp2_with fail
  refine bodyPost_ret (v:=.bool false) (by simp [results,Tryz.results13,go_sem,hs9]) rfl (B0.no HNE.out HB1.out)
 replace he:=Classical.not_not.1 he
 subst he
 iterate 20 go_step
 by_cases he:¬x13=y13
 ·have HNE:=AA (show R->False from fun r=>he (congrArg Cm.nm (Eq.mp HR.out r)))
  have n1:(x13.toList== y13.toList)=false:=eqF he
  have n3:(x13.toList != y13.toList)=true:=by simp only [bne,n1,Bool.not_false]
  clear he
  iterate 2 go_step
  refine DC 74 159 (by kernel_rfl) ?_
  intro t1 hs9 h9
  go_wp2_with fail
  refine wp_cond_true (by simp [Act.eval,h9]) ?_
  go_wp2_with fail
  refine bodyPost_ret (v:=.bool false) (by simp [results,Tryz.results13,go_sem,hs9]) rfl (B0.no HNE.out HB1.out)
 replace he:=Classical.not_not.1 he
 subst he
 iterate 20 go_step
 by_cases he:¬x14=y14
 ·have HNE:=AA (show R->False from fun r=>he (congrArg Cm.t (Eq.mp HR.out r)))
  have n1:(x14== y14)=false:=beq_eq_false_iff_ne.2 he
  have n3:(x14 != y14)=true:=by simp only [bne,n1,Bool.not_false]
  clear he
  iterate 2 go_step
  refine DC 74 159 (by kernel_rfl) ?_
  intro t1 hs9 h9
  go_wp2_with fail
  refine wp_cond_true (by simp [Act.eval,h9]) ?_
  go_wp2_with fail
  refine bodyPost_ret (v:=.bool false) (by simp [results,Tryz.results13,go_sem,hs9]) rfl (B0.no HNE.out HB1.out)
 replace he:=Classical.not_not.1 he
 subst he
 iterate 20 go_step
 by_cases he:¬x15=y15
 ·have HNE:=AA (show R->False from fun r=>he (congrArg Cm.bits (Eq.mp HR.out r)))
  have n1:(x15== y15)=false:=beq_eq_false_iff_ne.2 he
  have n3:(x15 != y15)=true:=by simp only [bne,n1,Bool.not_false]
  clear he
  iterate 2 go_step
  refine DC 74 159 (by kernel_rfl) ?_
  intro t1 hs9 h9
  go_wp2_with fail
  refine wp_cond_true (by simp [Act.eval,h9]) ?_
  go_wp2_with fail
  refine bodyPost_ret (v:=.bool false) (by simp [results,Tryz.results13,go_sem,hs9]) rfl (B0.no HNE.out HB1.out)
 replace he:=Classical.not_not.1 he
 subst he
 go_wp2_with fail
 go_loopw [5] (fun v5 wr=>∃i:Nat,v5=.int .i64 (i:Int)/\i<=mn/\(∀j,j<i->xm[j]?=ym[j]?)/\Below w.heap.size w wr/\(wr.heap[w.heap.size]?=some (.cells #[.int .i64 x0,.int .i64 x1,.int .i64 x2,.string x3,.int .i64 x4,.int .i64 x5,.int .i64 x6,.slice A pn ac,.int .i64 x7,.string x8,.int .i64 x9,.int .i64 x10,.int .i64 x11,.int .i64 x12,.string x13,.int .i64 x14,.int .u64 x15,.int .i64 x16,.slice M mn mc] 48 (0,0)))/\(wr.heap[w.heap.size+1]?=some (.cells #[.int .i64 x0,.int .i64 x1,.int .i64 y2,.string y3,.int .i64 y4,.int .i64 y5,.int .i64 y6,.slice A2 qn ac2,.int .i64 x7,.string x8,.int .i64 x9,.int .i64 x10,.int .i64 x11,.int .i64 x12,.string x13,.int .i64 x14,.int .u64 x15,.int .i64 x16,.slice M2 mn mc2] 48 (0,0)))) (fun v5 _=>mn-(intOf v5).toNat)
 case atStart=>exact ⟨0,rfl,by omega,fun j hj=>by omega,HB1.out,g1,g2⟩
 case round=>
  clear g1 g2 HB1
  obtain ⟨i,rfl,hi,hsame,hb,g1,g2⟩:=hrel
  have HS:=AA hsame
  clear hsame
  by_cases hlt:i<mn
  ·have e1:decide ((i:Int)<(mn:Int))=true:=decide_eq_true (by omega)
   have hix:i<xm.length:=by omega
   have hiy:i<ym.length:=by omega
   obtain ⟨adM,rfl,-,-⟩:=HM.out (by rw [BL];omega)
   obtain ⟨adN,rfl,-,-⟩:=HN.out (by rw [BL];omega)
   have QM:=fun w0 (hI:Below wr.heap.size wr w0)=>SQ HM.out (bB hb hI) i hix
   have QN:=fun w0 (hI:Below wr.heap.size wr w0)=>SQ HN.out (bB hb hI) i hiy
   have ex:xm[i]?=some xm[i]:=List.getElem?_eq_getElem hix
   have ey:ym[i]?=some ym[i]:=List.getElem?_eq_getElem hiy
   generalize xm[i]=a at QM ex
   generalize ym[i]=b at QN ey
   clear hix hiy
   by_cases he:¬a=b
   ·have HNE:=AA (show R->False from fun r=>he (by have:=congrArg Cm.masks (Eq.mp HR.out r);simp only at this;rw [this] at ex;exact Option.some.inj (ex.symm.trans ey)))
    have n1:(a== b)=false:=beq_eq_false_iff_ne.2 he
    have n2:decide (a=b)=false:=decide_eq_false he
    clear he ex ey
    obtain ⟨u1,u2,u3⟩:=AB g1
    obtain ⟨v1,v2,v3⟩:=AB g2
    go_wp2_with fail
    clear u1 u2 u3 v1 v2 v3
    refine Abs.wp_region_abs (Abs.cls0 _) [0,1,2,3,4,5,6,7,8,9,10] (by kernel_rfl) (by kernel_rfl) (Below.refl _ _).drew ?_
    (refine Abs.step_pure rfl rfl (fun K hK=>?_);go_simp;(try go_bits);(first|refine hK _ _ ?_|(simp only [↓IntWalk.iteOmega];go_simp;(try go_bits);refine hK _ _ ?_));clear hK K)
    (refine Abs.step_load (v:=?_) rfl rfl (by kernel_rfl) rfl (fun w0 hI=>?_) (fun K hK=>?_);rotate_left;(· have z0:=(AB (kp hI (g1))).1;have z1:=(AB (kp hI (g2))).1;go_simp;rfl);(simp only [Act.put,lA1,lZ1,lS1];refine hK _ _ ?_;clear hK K))
    iterate 2 (refine Abs.step_pure rfl rfl (fun K hK=>?_);go_simp;(try go_bits);(first|refine hK _ _ ?_|(simp only [↓IntWalk.iteOmega];go_simp;(try go_bits);refine hK _ _ ?_));clear hK K)
    (refine Abs.step_load (v:=?_) rfl rfl (by kernel_rfl) rfl (fun w0 hI=>?_) (fun K hK=>?_);rotate_left;(· have z0:=QM w0 hI;go_simp;rfl);(simp only [Act.put,lA1,lZ1,lS1];refine hK _ _ ?_;clear hK K))
    (refine Abs.step_pure rfl rfl (fun K hK=>?_);go_simp;(try go_bits);(first|refine hK _ _ ?_|(simp only [↓IntWalk.iteOmega];go_simp;(try go_bits);refine hK _ _ ?_));clear hK K)
    (refine Abs.step_load (v:=?_) rfl rfl (by kernel_rfl) rfl (fun w0 hI=>?_) (fun K hK=>?_);rotate_left;(· have z0:=(AB (kp hI (g1))).1;have z1:=(AB (kp hI (g2))).1;go_simp;rfl);(simp only [Act.put,lA1,lZ1,lS1];refine hK _ _ ?_;clear hK K))
    iterate 2 (refine Abs.step_pure rfl rfl (fun K hK=>?_);go_simp;(try go_bits);(first|refine hK _ _ ?_|(simp only [↓IntWalk.iteOmega];go_simp;(try go_bits);refine hK _ _ ?_));clear hK K)
    (refine Abs.step_load (v:=?_) rfl rfl (by kernel_rfl) rfl (fun w0 hI=>?_) (fun K hK=>?_);rotate_left;(· have z0:=QN w0 hI;go_simp;rfl);(simp only [Act.put,lA1,lZ1,lS1];refine hK _ _ ?_;clear hK K))
    (refine Abs.step_pure rfl rfl (fun K hK=>?_);go_simp;(try go_bits);(first|refine hK _ _ ?_|(simp only [↓IntWalk.iteOmega];go_simp;(try go_bits);refine hK _ _ ?_));clear hK K)
    (intro w7 hb7 hx0 hx1 hx2;clear hx0 hx1 hx2;simp only [Abs.T_setF,Abs.T_addA,Abs.T_push,Abs.T_start])
    have HB8:=AA (bB hb hb7)
    clear g1 g2 hb hb7 QM QN
    go_wp2_with fail
    go_ret
    exact B0.no HNE.out HB8.out
   ·replace he:=Classical.not_not.1 he
    subst he
    have HS2:=AA (show ∀j,j<i+1->xm[j]?=ym[j]? from fun j hj=>by
     by_cases hji:j<i
     ·exact HS.out j hji
     ·obtain rfl:j=i:=by omega
      exact ex.trans ey.symm)
    clear ex ey HS
    obtain ⟨u1,u2,u3⟩:=AB g1
    obtain ⟨v1,v2,v3⟩:=AB g2
    go_wp2_with fail
    clear u1 u2 u3 v1 v2 v3
    refine Abs.wp_region_abs (Abs.cls0 _) [0,1,2,3,4,5,6,7,8,9,10] (by kernel_rfl) (by kernel_rfl) (Below.refl _ _).drew ?_
    (refine Abs.step_pure rfl rfl (fun K hK=>?_);go_simp;(try go_bits);(first|refine hK _ _ ?_|(simp only [↓IntWalk.iteOmega];go_simp;(try go_bits);refine hK _ _ ?_));clear hK K)
    (refine Abs.step_load (v:=?_) rfl rfl (by kernel_rfl) rfl (fun w0 hI=>?_) (fun K hK=>?_);rotate_left;(· have z0:=(AB (kp hI (g1))).1;have z1:=(AB (kp hI (g2))).1;go_simp;rfl);(simp only [Act.put,lA1,lZ1,lS1];refine hK _ _ ?_;clear hK K))
    iterate 2 (refine Abs.step_pure rfl rfl (fun K hK=>?_);go_simp;(try go_bits);(first|refine hK _ _ ?_|(simp only [↓IntWalk.iteOmega];go_simp;(try go_bits);refine hK _ _ ?_));clear hK K)
    (refine Abs.step_load (v:=?_) rfl rfl (by kernel_rfl) rfl (fun w0 hI=>?_) (fun K hK=>?_);rotate_left;(· have z0:=QM w0 hI;go_simp;rfl);(simp only [Act.put,lA1,lZ1,lS1];refine hK _ _ ?_;clear hK K))
    (refine Abs.step_pure rfl rfl (fun K hK=>?_);go_simp;(try go_bits);(first|refine hK _ _ ?_|(simp only [↓IntWalk.iteOmega];go_simp;(try go_bits);refine hK _ _ ?_));clear hK K)
    (refine Abs.step_load (v:=?_) rfl rfl (by kernel_rfl) rfl (fun w0 hI=>?_) (fun K hK=>?_);rotate_left;(· have z0:=(AB (kp hI (g1))).1;have z1:=(AB (kp hI (g2))).1;go_simp;rfl);(simp only [Act.put,lA1,lZ1,lS1];refine hK _ _ ?_;clear hK K))
    iterate 2 (refine Abs.step_pure rfl rfl (fun K hK=>?_);go_simp;(try go_bits);(first|refine hK _ _ ?_|(simp only [↓IntWalk.iteOmega];go_simp;(try go_bits);refine hK _ _ ?_));clear hK K)
    (refine Abs.step_load (v:=?_) rfl rfl (by kernel_rfl) rfl (fun w0 hI=>?_) (fun K hK=>?_);rotate_left;(· have z0:=QN w0 hI;go_simp;rfl);(simp only [Act.put,lA1,lZ1,lS1];refine hK _ _ ?_;clear hK K))
    (refine Abs.step_pure rfl rfl (fun K hK=>?_);go_simp;(try go_bits);(first|refine hK _ _ ?_|(simp only [↓IntWalk.iteOmega];go_simp;(try go_bits);refine hK _ _ ?_));clear hK K)
    (intro w7 hb7 hx0 hx1 hx2;clear hx0 hx1 hx2;simp only [Abs.T_setF,Abs.T_addA,Abs.T_push,Abs.T_start])
    have hb8:=bB hb hb7
    have g1':=kp hb7 g1
    have g2':=kp hb7 g2
    clear g1 g2 hb hb7 QM QN
    go_wp2_with fail
    go_roundw
    case rel=>exact ⟨i+1,by go_num,by omega,HS2.out,hb8,g1',g2'⟩
    case measure=>simp [intOf];omega
  ·have e1:decide ((i:Int)<(mn:Int))=false:=decide_eq_false (by omega)
   have HME:=AA (show xm=ym from by
    apply List.ext_getElem?
    intro j
    by_cases hj:j<i
    ·exact HS.out j hj
    ·rw [List.getElem?_eq_none (by omega),List.getElem?_eq_none (by omega)])
   have HB:=AA hb
   clear hb HS HM HN hmn hnn
   obtain ⟨u1,u2,u3⟩:=AB g1
   obtain ⟨v1,v2,v3⟩:=AB g2
   go_wp2_with fail
   clear u1 u2 u3 v1 v2 v3
   refine Abs.wp_region_abs (Abs.cls _ (fun _=>False)) [0,1,2,3,4,5,6,7,8,9] (by kernel_rfl) (by kernel_rfl) (Below.refl _ _).drew ?_
   iterate 2 (refine Abs.step_pure rfl rfl (fun K hK=>?_);go_simp;(try go_bits);(first|refine hK _ _ ?_|(simp only [↓IntWalk.iteOmega];go_simp;(try go_bits);refine hK _ _ ?_));clear hK K)
   (refine Abs.step_late (v:=?_) rfl rfl (fun w0 hI=>?_) (fun K hK=>?_);rotate_left;(· have z0:=(AB (A7 hI (g1))).1;have z1:=(AB (A7 hI (g2))).1;go_simp;rfl);(simp only [Act.put,lA1,lZ1,lS1];refine hK _ _ ?_;clear hK K))
   iterate 2 (refine Abs.step_pure rfl rfl (fun K hK=>?_);go_simp;(try go_bits);(first|refine hK _ _ ?_|(simp only [↓IntWalk.iteOmega];go_simp;(try go_bits);refine hK _ _ ?_));clear hK K)
   (refine Abs.step_late (v:=?_) rfl rfl (fun w0 hI=>?_) (fun K hK=>?_);rotate_left;(· have z0:=(AB (A7 hI (g1))).1;have z1:=(AB (A7 hI (g2))).1;go_simp;rfl);(simp only [Act.put,lA1,lZ1,lS1];refine hK _ _ ?_;clear hK K))
   (refine Abs.step_new (f:=fun g=>.pointer (some ⟨g,0,none⟩)) (obj:=?_) rfl rfl rfl rfl (fun w0=>?_) (fun K hK g_a hv_a hu_a=>?_);rotate_left;(· go_simp;rfl);(simp only [Act.put,lA1,lZ1,lS1];refine hK _ _ ?_;clear hK K))
   (refine Abs.step_new (f:=fun g=>.pointer (some ⟨g,0,none⟩)) (obj:=?_) rfl rfl rfl rfl (fun w0=>?_) (fun K hK g_b hv_b hu_b=>?_);rotate_left;(· go_simp;rfl);(simp only [Act.put,lA1,lZ1,lS1];refine hK _ _ ?_;clear hK K))
   have hn:g_b≠g_a:=fun e=>hu_b (Or.inl e)
   (refine Abs.step_store (T:=fun w0=>setRow w0 g_a #[.int .i64 x2,.string x3,.int .i64 x4,.int .i64 x5,.int .i64 x6,.slice A pn ac]) rfl rfl rfl (fun w0 hI hF hU=>?_) (fun w0 hI hU hJ=>BY hJ hv_a _) (fun K hK=>?_);(· simp only [Abs.T_setF,Abs.T_addA,Abs.T_push,Abs.T_start];exact BJ rfl rfl rfl ((hF 6).1.2 rfl) AY rfl (by simp [Value.oneCell']));(simp only [Act.put,lA1,lZ1,lS1];refine hK _ _ ?_;clear hK K))
   (refine Abs.step_store (T:=fun w0=>setRow (setRow w0 g_a #[.int .i64 x2,.string x3,.int .i64 x4,.int .i64 x5,.int .i64 x6,.slice A pn ac]) g_b #[.int .i64 y2,.string y3,.int .i64 y4,.int .i64 y5,.int .i64 y6,.slice A2 qn ac2]) rfl rfl rfl (fun w0 hI hF hU=>?_) (fun w0 hI hU hJ=>BY hJ hv_b _) (fun K hK=>?_);(· simp only [Abs.T_setF,Abs.T_addA,Abs.T_push,Abs.T_start];exact BJ rfl rfl rfl (((BD _ hn).trans ((hF 7).2 rfl))) AY rfl (by simp [Value.oneCell']));(simp only [Act.put,lA1,lZ1,lS1];refine hK _ _ ?_;clear hK K))
   intro w0 hI hF hx1 hx2
   have qa:=(hF 6).1.2 rfl
   have qb:=(hF 7).2 rfl
   clear hx1 hx2 hF
   simp only [Abs.T_setF,Abs.T_addA,Abs.T_push,Abs.T_start]
   have hv_a2:wr.heap.size<=g_a:=hv_a
   have hv_b2:wr.heap.size<=g_b:=hv_b
   generalize hTa:setRow w0 g_a _=wa
   obtain ⟨hba,fa9⟩:=BZ hI hv_a2 qa hTa
   have qb2:=(congrArg (fun W:World=>W.heap[g_b]?) hTa).symm.trans ((BD _ hn).trans qb)
   generalize hTb:setRow wa g_b _=w9
   obtain ⟨hb9,fb9⟩:=BZ hba hv_b2 qb2 hTb
   replace fa9:=(congrArg (fun W:World=>W.heap[g_a]?) hTb).symm.trans ((BD _ (Ne.symm hn)).trans fa9)
   have HB9:=AA (bB HB.out hb9)
   clear qa qb qb2 hTa hTb hba hb9 hI hv_a hv_b hv_a2 hv_b2 hu_a hu_b hn
   obtain ⟨ga9,hga9⟩:∃ga,ga=g_a:=⟨_,rfl⟩
   obtain ⟨gb9,hgb9⟩:∃gb,gb=g_b:=⟨_,rfl⟩
   rw [<-hga9] at fa9 ⊢
   rw [<-hgb9] at fb9 ⊢
   clear hga9 hgb9
   clear g1 g2 HB
   obtain ⟨u1,u2,u3⟩:=AB fa9
   obtain ⟨v1,v2,v3⟩:=AB fb9
   iterate 17 go_step
   by_cases he:¬x2=y2
   ·have HNE:=AA (show R->False from fun r=>he (congrArg Cm.mkd (Eq.mp HR.out r)))
    have n1:(x2== y2)=false:=beq_eq_false_iff_ne.2 he
    have n3:(x2 != y2)=true:=by simp only [bne,n1,Bool.not_false]
    clear he
    iterate 3 go_step
    refine DC 140 159 (by kernel_rfl) ?_
    intro t1 hs9 h9
    go_wp2_with fail
    refine wp_cond_true (by simp [Act.eval,h9]) ?_
    go_wp2_with fail
    refine bodyPost_ret (v:=.bool false) (by simp [results,Tryz.results13,go_sem,hs9]) rfl (B0.no HNE.out HB9.out)
   replace he:=Classical.not_not.1 he
   subst he
   iterate 14 go_step
   by_cases he:¬x3=y3
   ·have HNE:=AA (show R->False from fun r=>he (congrArg Cm.mn (Eq.mp HR.out r)))
    have n1:(x3.toList== y3.toList)=false:=eqF he
    have n3:(x3.toList != y3.toList)=true:=by simp only [bne,n1,Bool.not_false]
    clear he
    iterate 2 go_step
    refine DC 140 159 (by kernel_rfl) ?_
    intro t1 hs9 h9
    go_wp2_with fail
    refine wp_cond_true (by simp [Act.eval,h9]) ?_
    go_wp2_with fail
    refine bodyPost_ret (v:=.bool false) (by simp [results,Tryz.results13,go_sem,hs9]) rfl (B0.no HNE.out HB9.out)
   replace he:=Classical.not_not.1 he
   subst he
   iterate 16 go_step
   by_cases he:¬x4=y4
   ·have HNE:=AA (show R->False from fun r=>he (congrArg Cm.me (Eq.mp HR.out r)))
    have n1:(x4== y4)=false:=beq_eq_false_iff_ne.2 he
    have n3:(x4 != y4)=true:=by simp only [bne,n1,Bool.not_false]
    clear he
    iterate 2 go_step
    refine DC 140 159 (by kernel_rfl) ?_
    intro t1 hs9 h9
    go_wp2_with fail
    refine wp_cond_true (by simp [Act.eval,h9]) ?_
    go_wp2_with fail
    refine bodyPost_ret (v:=.bool false) (by simp [results,Tryz.results13,go_sem,hs9]) rfl (B0.no HNE.out HB9.out)
   replace he:=Classical.not_not.1 he
   subst he
   iterate 16 go_step
   by_cases he:¬x5=y5
   ·have HNE:=AA (show R->False from fun r=>he (congrArg Cm.mf (Eq.mp HR.out r)))
    have n1:(x5== y5)=false:=beq_eq_false_iff_ne.2 he
    have n3:(x5 != y5)=true:=by simp only [bne,n1,Bool.not_false]
    clear he
    iterate 2 go_step
    refine DC 140 159 (by kernel_rfl) ?_
    intro t1 hs9 h9
    go_wp2_with fail
    refine wp_cond_true (by simp [Act.eval,h9]) ?_
    go_wp2_with fail
    refine bodyPost_ret (v:=.bool false) (by simp [results,Tryz.results13,go_sem,hs9]) rfl (B0.no HNE.out HB9.out)
   replace he:=Classical.not_not.1 he
   subst he
   iterate 16 go_step
   by_cases he:¬x6=y6
   ·have HNE:=AA (show R->False from fun r=>he (congrArg Cm.ms (Eq.mp HR.out r)))
    have n1:(x6== y6)=false:=beq_eq_false_iff_ne.2 he
    have n3:(x6 != y6)=true:=by simp only [bne,n1,Bool.not_false]
    clear he
    iterate 2 go_step
    refine DC 140 159 (by kernel_rfl) ?_
    intro t1 hs9 h9
    go_wp2_with fail
    refine wp_cond_true (by simp [Act.eval,h9]) ?_
    go_wp2_with fail
    refine bodyPost_ret (v:=.bool false) (by simp [results,Tryz.results13,go_sem,hs9]) rfl (B0.no HNE.out HB9.out)
   replace he:=Classical.not_not.1 he
   subst he
   iterate 20 go_step
   by_cases he:¬pn=qn
   ·have HNE:=AA (show R->False from fun r=>he (by have:=congrArg (fun c:Cm=>c.pts.length) (Eq.mp HR.out r);simp only at this;omega))
    have n0:¬((pn:Int)=(qn:Int)):=by omega
    have n1:(((pn:Nat):Int)== ((qn:Nat):Int))=false:=beq_eq_false_iff_ne.2 n0
    have n3:(((pn:Nat):Int) != ((qn:Nat):Int))=true:=by simp only [bne,n1,Bool.not_false]
    clear he n0
    iterate 2 go_step
    refine DC 140 159 (by kernel_rfl) ?_
    intro t1 hs9 h9
    go_wp2_with fail
    refine wp_cond_true (by simp [Act.eval,h9]) ?_
    go_wp2_with fail
    refine bodyPost_ret (v:=.bool false) (by simp [results,Tryz.results13,go_sem,hs9]) rfl (B0.no HNE.out HB9.out)
   replace he:=Classical.not_not.1 he
   subst he
   go_wp2_with fail
   clear u1 u2 u3 v1 v2 v3
   go_loopw [8] (fun v8 wr=>∃j:Nat,v8=.int .i64 (j:Int)/\j<=pn/\(∀k,k<j->xp[k]?=yp[k]?)/\Below w9.heap.size w9 wr) (fun v8 _=>pn-(intOf v8).toNat)
   case atStart=>exact ⟨0,rfl,by omega,fun k hk=>by omega,b0 _⟩
   case round=>
    obtain ⟨j,rfl,hj,hsame,hbr⟩:=hrel
    have HS:=AA hsame
    clear hsame
    have ga:=kp hbr fa9
    have gb:=kp hbr fb9
    have HB10:=AA (bB HB9.out hbr)
    by_cases hlt:j<pn
    ·have e1:decide ((j:Int)<(pn:Int))=true:=decide_eq_true (by omega)
     have hjx:j<xp.length:=by omega
     have hjy:j<yp.length:=by omega
     obtain ⟨adA,rfl,-,-⟩:=HA.out (by have:=H3 xp;omega)
     obtain ⟨adC,rfl,-,-⟩:=HC.out (by have:=H3 yp;omega)
     have PM:=fun w0 (hI:Below wr.heap.size wr w0)=>KA HA.out (bB HB10.out hI) j hjx
     have PN:=fun w0 (hI:Below wr.heap.size wr w0)=>KA HC.out (bB HB10.out hI) j hjy
     have ex:xp[j]?=some xp[j]:=List.getElem?_eq_getElem hjx
     have ey:yp[j]?=some yp[j]:=List.getElem?_eq_getElem hjy
     generalize xp[j]=a at PM ex
     generalize yp[j]=b at PN ey
     clear hjx hjy
     obtain ⟨a1,a2⟩:=a
     obtain ⟨b1,b2⟩:=b
     simp only at PM PN
     by_cases he1:¬a1=b1
     ·have HNE:=AA (show R->False from fun r=>he1 (by have:=congrArg Cm.pts (Eq.mp HR.out r);simp only at this;rw [this] at ex;have:=Option.some.inj (ex.symm.trans ey);exact congrArg Prod.fst this))
      have n1:(a1== b1)=false:=beq_eq_false_iff_ne.2 he1
      have n2:decide (a1=b1)=false:=decide_eq_false he1
      clear he1 ex ey
      obtain ⟨u1,u2,u3⟩:=AB ga
      obtain ⟨v1,v2,v3⟩:=AB gb
      go_wp2_with fail
      clear u1 u2 u3 v1 v2 v3
      refine Abs.wp_region_abs (Abs.cls0 _) [0,1,2,3,4,5,6,7,8,9,10] (by kernel_rfl) (by kernel_rfl) (Below.refl _ _).drew ?_
      (refine Abs.step_pure rfl rfl (fun K hK=>?_);go_simp;(try go_bits);(first|refine hK _ _ ?_|(simp only [↓IntWalk.iteOmega];go_simp;(try go_bits);refine hK _ _ ?_));clear hK K)
      (refine Abs.step_load (v:=?_) rfl rfl (by kernel_rfl) rfl (fun w0 hI=>?_) (fun K hK=>?_);rotate_left;(· have z0:=(AB (kp hI (ga))).1;have z1:=(AB (kp hI (gb))).1;go_simp;rfl);(simp only [Act.put,lA1,lZ1,lS1];refine hK _ _ ?_;clear hK K))
      iterate 2 (refine Abs.step_pure rfl rfl (fun K hK=>?_);go_simp;(try go_bits);(first|refine hK _ _ ?_|(simp only [↓IntWalk.iteOmega];go_simp;(try go_bits);refine hK _ _ ?_));clear hK K)
      (refine Abs.step_load (v:=?_) rfl rfl (by kernel_rfl) rfl (fun w0 hI=>?_) (fun K hK=>?_);rotate_left;(· obtain ⟨zp0,zq0⟩:=PM w0 hI;go_simp;rfl);(simp only [Act.put,lA1,lZ1,lS1];refine hK _ _ ?_;clear hK K))
      (refine Abs.step_pure rfl rfl (fun K hK=>?_);go_simp;(try go_bits);(first|refine hK _ _ ?_|(simp only [↓IntWalk.iteOmega];go_simp;(try go_bits);refine hK _ _ ?_));clear hK K)
      (refine Abs.step_load (v:=?_) rfl rfl (by kernel_rfl) rfl (fun w0 hI=>?_) (fun K hK=>?_);rotate_left;(· have z0:=(AB (kp hI (ga))).1;have z1:=(AB (kp hI (gb))).1;go_simp;rfl);(simp only [Act.put,lA1,lZ1,lS1];refine hK _ _ ?_;clear hK K))
      iterate 2 (refine Abs.step_pure rfl rfl (fun K hK=>?_);go_simp;(try go_bits);(first|refine hK _ _ ?_|(simp only [↓IntWalk.iteOmega];go_simp;(try go_bits);refine hK _ _ ?_));clear hK K)
      (refine Abs.step_load (v:=?_) rfl rfl (by kernel_rfl) rfl (fun w0 hI=>?_) (fun K hK=>?_);rotate_left;(· obtain ⟨zp0,zq0⟩:=PN w0 hI;go_simp;rfl);(simp only [Act.put,lA1,lZ1,lS1];refine hK _ _ ?_;clear hK K))
      (refine Abs.step_pure rfl rfl (fun K hK=>?_);go_simp;(try go_bits);(first|refine hK _ _ ?_|(simp only [↓IntWalk.iteOmega];go_simp;(try go_bits);refine hK _ _ ?_));clear hK K)
      (intro w11 hb11 hx0 hx1 hx2;clear hx0 hx1 hx2;simp only [Abs.T_setF,Abs.T_addA,Abs.T_push,Abs.T_start])
      have HB11:=AA (bB HB10.out hb11)
      clear PM PN ga gb hbr hb11
      go_wp2_with fail
      go_ret
      exact B0.no HNE.out HB11.out
     replace he1:=Classical.not_not.1 he1
     subst he1
     by_cases he2:¬a2=b2
     ·have HNE:=AA (show R->False from fun r=>he2 (by have:=congrArg Cm.pts (Eq.mp HR.out r);simp only at this;rw [this] at ex;have:=Option.some.inj (ex.symm.trans ey);exact congrArg Prod.snd this))
      have n1:(a2== b2)=false:=beq_eq_false_iff_ne.2 he2
      have n2:decide (a2=b2)=false:=decide_eq_false he2
      clear he2 ex ey
      obtain ⟨u1,u2,u3⟩:=AB ga
      obtain ⟨v1,v2,v3⟩:=AB gb
      go_wp2_with fail
      clear u1 u2 u3 v1 v2 v3
      refine Abs.wp_region_abs (Abs.cls0 _) [0,1,2,3,4,5,6,7,8,9,10] (by kernel_rfl) (by kernel_rfl) (Below.refl _ _).drew ?_
      (refine Abs.step_pure rfl rfl (fun K hK=>?_);go_simp;(try go_bits);(first|refine hK _ _ ?_|(simp only [↓IntWalk.iteOmega];go_simp;(try go_bits);refine hK _ _ ?_));clear hK K)
      (refine Abs.step_load (v:=?_) rfl rfl (by kernel_rfl) rfl (fun w0 hI=>?_) (fun K hK=>?_);rotate_left;(· have z0:=(AB (kp hI (ga))).1;have z1:=(AB (kp hI (gb))).1;go_simp;rfl);(simp only [Act.put,lA1,lZ1,lS1];refine hK _ _ ?_;clear hK K))
      iterate 2 (refine Abs.step_pure rfl rfl (fun K hK=>?_);go_simp;(try go_bits);(first|refine hK _ _ ?_|(simp only [↓IntWalk.iteOmega];go_simp;(try go_bits);refine hK _ _ ?_));clear hK K)
      (refine Abs.step_load (v:=?_) rfl rfl (by kernel_rfl) rfl (fun w0 hI=>?_) (fun K hK=>?_);rotate_left;(· obtain ⟨zp0,zq0⟩:=PM w0 hI;go_simp;rfl);(simp only [Act.put,lA1,lZ1,lS1];refine hK _ _ ?_;clear hK K))
      (refine Abs.step_pure rfl rfl (fun K hK=>?_);go_simp;(try go_bits);(first|refine hK _ _ ?_|(simp only [↓IntWalk.iteOmega];go_simp;(try go_bits);refine hK _ _ ?_));clear hK K)
      (refine Abs.step_load (v:=?_) rfl rfl (by kernel_rfl) rfl (fun w0 hI=>?_) (fun K hK=>?_);rotate_left;(· have z0:=(AB (kp hI (ga))).1;have z1:=(AB (kp hI (gb))).1;go_simp;rfl);(simp only [Act.put,lA1,lZ1,lS1];refine hK _ _ ?_;clear hK K))
      iterate 2 (refine Abs.step_pure rfl rfl (fun K hK=>?_);go_simp;(try go_bits);(first|refine hK _ _ ?_|(simp only [↓IntWalk.iteOmega];go_simp;(try go_bits);refine hK _ _ ?_));clear hK K)
      (refine Abs.step_load (v:=?_) rfl rfl (by kernel_rfl) rfl (fun w0 hI=>?_) (fun K hK=>?_);rotate_left;(· obtain ⟨zp0,zq0⟩:=PN w0 hI;go_simp;rfl);(simp only [Act.put,lA1,lZ1,lS1];refine hK _ _ ?_;clear hK K))
      (refine Abs.step_pure rfl rfl (fun K hK=>?_);go_simp;(try go_bits);(first|refine hK _ _ ?_|(simp only [↓IntWalk.iteOmega];go_simp;(try go_bits);refine hK _ _ ?_));clear hK K)
      (intro w11 hb11 hx0 hx1 hx2;clear hx0 hx1 hx2;simp only [Abs.T_setF,Abs.T_addA,Abs.T_push,Abs.T_start])
      have HB11:=AA (bB HB10.out hb11)
      clear PM PN ga gb hbr hb11
      go_wp2_with fail
      go_ret
      exact B0.no HNE.out HB11.out
     replace he2:=Classical.not_not.1 he2
     subst he2
     have HS2:=AA (show ∀k,k<j+1->xp[k]?=yp[k]? from fun k hk=>by
      by_cases hkj:k<j
      ·exact HS.out k hkj
      ·obtain rfl:k=j:=by omega
       exact ex.trans ey.symm)
     clear ex ey HS
     obtain ⟨u1,u2,u3⟩:=AB ga
     obtain ⟨v1,v2,v3⟩:=AB gb
     go_wp2_with fail
     clear u1 u2 u3 v1 v2 v3
     refine Abs.wp_region_abs (Abs.cls0 _) [0,1,2,3,4,5,6,7,8,9,10] (by kernel_rfl) (by kernel_rfl) (Below.refl _ _).drew ?_
     (refine Abs.step_pure rfl rfl (fun K hK=>?_);go_simp;(try go_bits);(first|refine hK _ _ ?_|(simp only [↓IntWalk.iteOmega];go_simp;(try go_bits);refine hK _ _ ?_));clear hK K)
     (refine Abs.step_load (v:=?_) rfl rfl (by kernel_rfl) rfl (fun w0 hI=>?_) (fun K hK=>?_);rotate_left;(· have z0:=(AB (kp hI (ga))).1;have z1:=(AB (kp hI (gb))).1;go_simp;rfl);(simp only [Act.put,lA1,lZ1,lS1];refine hK _ _ ?_;clear hK K))
     iterate 2 (refine Abs.step_pure rfl rfl (fun K hK=>?_);go_simp;(try go_bits);(first|refine hK _ _ ?_|(simp only [↓IntWalk.iteOmega];go_simp;(try go_bits);refine hK _ _ ?_));clear hK K)
     (refine Abs.step_load (v:=?_) rfl rfl (by kernel_rfl) rfl (fun w0 hI=>?_) (fun K hK=>?_);rotate_left;(· obtain ⟨zp0,zq0⟩:=PM w0 hI;go_simp;rfl);(simp only [Act.put,lA1,lZ1,lS1];refine hK _ _ ?_;clear hK K))
     (refine Abs.step_pure rfl rfl (fun K hK=>?_);go_simp;(try go_bits);(first|refine hK _ _ ?_|(simp only [↓IntWalk.iteOmega];go_simp;(try go_bits);refine hK _ _ ?_));clear hK K)
     (refine Abs.step_load (v:=?_) rfl rfl (by kernel_rfl) rfl (fun w0 hI=>?_) (fun K hK=>?_);rotate_left;(· have z0:=(AB (kp hI (ga))).1;have z1:=(AB (kp hI (gb))).1;go_simp;rfl);(simp only [Act.put,lA1,lZ1,lS1];refine hK _ _ ?_;clear hK K))
     iterate 2 (refine Abs.step_pure rfl rfl (fun K hK=>?_);go_simp;(try go_bits);(first|refine hK _ _ ?_|(simp only [↓IntWalk.iteOmega];go_simp;(try go_bits);refine hK _ _ ?_));clear hK K)
     (refine Abs.step_load (v:=?_) rfl rfl (by kernel_rfl) rfl (fun w0 hI=>?_) (fun K hK=>?_);rotate_left;(· obtain ⟨zp0,zq0⟩:=PN w0 hI;go_simp;rfl);(simp only [Act.put,lA1,lZ1,lS1];refine hK _ _ ?_;clear hK K))
     (refine Abs.step_pure rfl rfl (fun K hK=>?_);go_simp;(try go_bits);(first|refine hK _ _ ?_|(simp only [↓IntWalk.iteOmega];go_simp;(try go_bits);refine hK _ _ ?_));clear hK K)
     (intro w11 hb11 hx0 hx1 hx2;clear hx0 hx1 hx2;simp only [Abs.T_setF,Abs.T_addA,Abs.T_push,Abs.T_start])
     have hb12:=bB hbr hb11
     clear PM PN ga gb hbr hb11
     go_wp2_with fail
     go_roundw
     case rel=>exact ⟨j+1,by go_num,by omega,HS2.out,hb12⟩
     case measure=>simp [intOf];omega
    ·have e1:decide ((j:Int)<(pn:Int))=false:=decide_eq_false (by omega)
     have HPE:=AA (show xp=yp from by
      apply List.ext_getElem?
      intro k
      by_cases hk:k<j
      ·exact HS.out k hk
      ·rw [List.getElem?_eq_none (by omega),List.getElem?_eq_none (by omega)])
     obtain ⟨u1,u2,u3⟩:=AB ga
     obtain ⟨v1,v2,v3⟩:=AB gb
     go_wp2_with fail
     go_ret
     exact B0.yes (Eq.mpr HR.out (by rw [HPE.out,HME.out])) HB10.out
theorem IM (x y:Cm) (A:Option Addr) (ac:Nat) (M:Option Addr) (mc:Nat) (A2:Option Addr) (ac2:Nat) (M2:Option Addr) (mc2:Nat) (w:World) (h1:RK 99 2 w A x.pts.length ac (AU x.pts)) (h2:RK 3 1 w M x.masks.length mc (AH x.masks)) (h3:RK 99 2 w A2 y.pts.length ac2 (AU y.pts)) (h4:RK 3 1 w M2 y.masks.length mc2 (AH y.masks)) :
  Calls Tryz.prog 13 #[.agg (x.cs A ac M mc),.agg (y.cs A2 ac2 M2 mc2)] w fun e w'=>∃b:Bool,e=.returned (.bool b)/\(b=true↔x=y)/\Below w.heap.size w w':=tL x y A ac M mc A2 ac2 M2 mc2 w h1 h2 h3 h4
end Go.Proofs.YtlnonecibpjcoaaGreatDoor
