/- The document's a. -/
import Derived.Test.YtlnonecibpjcoaaGreatDoorPd
import Derived.Test.YtlnonecibpjcoaaGreatDoorKE
set_option linter.all false
set_option maxRecDepth 100000
set_option maxHeartbeats 16000000
namespace Go.Proofs.YtlnonecibpjcoaaGreatDoor
open Go.RowKit
attribute [local go_sem] Oper.semAt_some
theorem gS (hd nm:ByteArray) (r:List ByteArray) (hh:hd=CL) (hno:∀j,1<=j->j<8->AW j≠hd) (hb:NoBare hd) (a6:(hd.toList== ([114,101,97,100]:List UInt8))=false) (a7:(hd.toList== ([98,117,99,107,101,116,115]:List UInt8))=false) (hn:nm.size<=40) (s:ByteArray) (hs:s.size<=1000000) (h:rW s.data.toList ⟨#[]⟩ []=some (hd::nm::r)) (hl:r.length<=1000000) (hz:∀x ∈ r,x.size<=1000000) (w:World) :
  Calls Tryz.prog 11 #[.string s] w (RPq (match AL r with|some xs=>BS hd nm xs|none=>none) w):=by
 have c0:=D8 s hs (w.alloc (.cells AD 48))
 rw [h] at c0
 obtain ⟨R,hR⟩:∃R:Option Cm,R=(match AL r with|some xs=>BS hd nm xs|none=>none):=⟨_,rfl⟩
 rw [<-hR]
 have HR:=AA hR
 clear hR h
 have HH:=AA hh
 clear hh
 have f1:=na w AD 48
 have hb1:=bA (b0 w) (.cells AD 48)
 obtain ⟨a1,a2,a3,a4,a5⟩:=hb
 go_enter Tryz.func11,Tryz.ntmps11
 go_wp2_with fail
 refine c0.mono ?_
 rintro e w2 ⟨v,rfl,hO,hb2⟩
 obtain ⟨A,c,rfl,hr⟩:=hO.cr
 have f2:=kp hb2 f1
 have HB:=AA (bB hb1 hb2)
 have hzc:=BF
 have h1:=C2
 have hcap:=hr.cap
 have hin:=hr.inV
 rw [BG] at hcap
 obtain ⟨ad,rfl,hal,hc⟩:=hr.inV (by simp [AC])
 have q0:=hc 0 (by simp [AC])
 have q1:=hc 1 (by simp [AC])
 simp only [AC,List.map_cons,List.getElem_cons_zero,List.getElem_cons_succ,CJ] at q0 q1
 have q1:w2.cell? ⟨ad.block,ad.off+1,none⟩=some (.string nm):=by simpa [Addr.add] using q1
 rw [BG]
 have hin2:=GQ (j:=2) hcap hin
 have e9:(hd::nm::r).drop 2=r:=rfl
 rw [e9] at hin2
 obtain ⟨A1,hA1⟩:∃A1,A1=some (if c-2=0 then ad else ad.add 2):=⟨_,rfl⟩
 obtain ⟨c1,hc1⟩:∃c1,c1=c-2:=⟨_,rfl⟩
 rw [<-hA1] at hin2
 have HA1:=AA hA1
 have HC1:=AA hc1
 clear hA1 hc1
 have e0:(hd::nm::r).length=r.length+2:=rfl
 rw [e0] at hcap ⊢
 have e2:decide ((r.length:Int)+2<2)=false:=decide_eq_false (by omega)
 have e3:decide ((40:Int)<(nm.size:Int))=false:=decide_eq_false (by omega)
 have cN:=GO A1 c1 r hl hz w2 hin2
 clear c0 hb1 hO hc hr hz e0 hin hin2
 go_wp2_with (refine GP rfl _ _ rfl ad (r.length+2) c 2 rfl rfl (by omega) hcap A1 r.length c1 HA1.out rfl HC1.out ?_;simp only [Act.put,lA1,lZ1,lS1])
 refine cN.mono ?_
 rintro e w3 hp3
 have hB:=HB.out
 cases hp:AL r with
 | none=>
  rw [hp] at hp3
  obtain ⟨rfl,hb3⟩:=hp3
  have f3:=kp hb3 f2
  have HB3:=AA (bB hB hb3)
  have HN:Hid (R=none):=AA (by rw [HR.out,hp])
  clear hp hB hb3 f2 cN q0 q1
  go_wp2_with (first|(refine BC rfl _ _ rfl (.agg AD) #[] (by simp [Act.eval]) (C3 _) ?_;simp only [Act.put,lA1,lZ1,lS1])|(refine AG rfl _ _ _ rfl w.heap.size 48 _ AD rfl rfl f3 (by rw [AE,hzc]) rfl h1 ?_;simp only [Act.put]))
  exact BU rfl rfl f3 BF HB3.out HN.out
 | some xs=>
  rw [hp] at hp3
  obtain ⟨v3,rfl,hO3,hb3⟩:=hp3
  have f3:=kp hb3 f2
  have HB3:=AA (bB hB hb3)
  obtain ⟨A3,c3,rfl,hr3⟩:=hO3.cr
  have HI3:=AA hr3.inV
  have HN:Hid (R=BS hd nm xs):=AA (by rw [HR.out,hp])
  rw [BL]
  clear hp hB hb3 f2 cN q0 q1 hO3 hr3 hal HR HB HA1 HC1 hcap a1 a2 a3 a4 a5 a6 a7 e2 e3
  have HN:Hid (R=if 2<=xs.length/\xs.length<=40/\xs.length%2=0 then some { ok:=1,mkd:=3,mn:=nm,pts:=BX xs } else none):=AA (by rw [HN.out,HH.out];rfl)
  have HNO:=AA hno
  clear hno
  go_wp2_with fail
  go_loopw [22] (fun v22 wr=>∃(k:Nat),v22=.int .i64 (k:Int)/\1<=k/\k<=8/\Hid (Below w3.heap.size w3 wr)) (fun v22 _=>9-(intOf v22).toNat)
  case atStart=>exact ⟨1,rfl,by omega,by omega,AA (b0 _)⟩
  case round=>
   obtain ⟨k,rfl,hk1,hkk,HBr⟩:=hrel
   rcases Nat.lt_or_ge k 8 with hlt|hge
   ·have e1:decide ((k:Int)<=7)=true:=decide_eq_true (by omega)
    have cW:=fun W=>GM k (by omega) W
    have hx:AW k≠hd:=HNO.out k hk1 hlt
    have ex:=eqF hx
    generalize AW k=K at *
    clear hx
    go_wp2_with fail
    refine (cW _).mono ?_
    rintro e w5 ⟨rfl,hb5⟩
    have HB5:=AA (bB HBr.out hb5)
    go_wp2_with fail
    go_roundw
    case rel=>exact ⟨k+1,by go_num,by omega,by omega,HB5⟩
    case measure=>simp [intOf];omega
   ·have e1:decide ((k:Int)<=7)=false:=decide_eq_false (by omega)
    obtain ⟨w5,hw5⟩:∃w5,w5=wr:=⟨_,rfl⟩
    rw [<-hw5] at HBr ⊢
    clear hw5
    have fB:=kp HBr.out f3
    obtain ⟨q,hq⟩:∃q,q=w5.heap.size:=⟨_,rfl⟩
    have hqw:w.heap.size<q:=by rw [hq];exact (AB fB).2.2
    have Hq:=AA hq
    have hBw:=AA (bB HB3.out HBr.out)
    have HI5:=AA (HI3.out.below HBr.out)
    clear HNO HBr f3 HI3 hq
    have bc:(hd.toList== ([99,114,101,97,116,101]:List UInt8))=false:=BQ _ (by rw [HH.out];decide)
    have bd:(hd.toList== ([100,114,111,112]:List UInt8))=false:=BQ _ (by rw [HH.out];decide)
    have ba:(hd.toList== ([97,112,112,101,110,100]:List UInt8))=true:=FE _ (by rw [HH.out];rfl)
    have br:(hd.toList== ([114,101,116,97,105,110]:List UInt8))=false:=BQ _ (by rw [HH.out];decide)
    clear HH
    by_cases h2:2<=xs.length
    ·have n2:decide ((2:Int)<=(xs.length:Int))=true:=decide_eq_true (by omega)
     by_cases h40:xs.length<=40
     ·have n40:decide ((xs.length:Int)<=40)=true:=decide_eq_true (by omega)
      by_cases hev:xs.length%2=0
      ·have nev:((xs.length:Int).tmod 2== 0)=true:=by rw [beq_iff_eq,Int.tmod_eq_emod_of_nonneg (by omega)];omega
       have HN2:Hid (R=some { ok:=1,mkd:=3,mn:=nm,pts:=BX xs }):=AA (by rw [HN.out,if_pos ⟨h2,h40,hev⟩])
       clear HN
       go_wp2_with (first
        | (refine AG rfl _ _ _ rfl w5.heap.size 24 _ #[.int .i64 0,.string nm,.int .i64 0,.int .i64 0,.int .i64 0,.slice none 0 0] rfl rfl (na _ _ _) AY rfl (by simp [Value.oneCell']) ?_;simp only [Act.put];generalize hT6:setRow _ _ _=w6;obtain ⟨hx6,g6⟩:=AK (b0 _) (na w5 _ 24) hT6;have f6:=kx hx6 (kp (bA (b0 _) _) fB) (by have:=Hq.out;omega);have HB6:=AA (bX (bA (b0 w5) _) hx6 (Nat.le_refl _));rw [<-Hq.out] at g6 ⊢;clear hT6 hx6)
        | (refine FF rfl 3 _ _ rfl q 0 24 _ .i64 3 rfl rfl g6 (by simp) (fun w=>Tryz.sizeOf3 w) ?_;generalize hT7:setRow _ _ _=w7;obtain ⟨hx7,g7⟩:=AK (b0 _) g6 hT7;simp only [lA1,lZ1,lS1] at g7;have f7:=kx hx7 f6 (by omega);have HB7:=AA (bX HB6.out hx7 (by have:=Hq.out;omega));clear hT7 hx7))
       go_loopw [25] (fun v25 wr=>∃(i m:Nat) (PA:Option Addr) (pc:Nat),v25=.int .i64 (i:Int)/\i<=xs.length/\Hid (i=2*m)/\(wr.heap[q]?=some (.cells #[.int .i64 3,.string nm,.int .i64 0,.int .i64 0,.int .i64 0,.slice PA m pc] 24 (0,0)))/\Hid (BT 99 2 (q+1) wr (.slice PA m pc) m (AU ((BX xs).take m)))/\Hid (m=0->(.slice PA m pc:Value)=.slice none 0 0)/\Hid (Below w5.heap.size w5 wr)) (fun v25 _=>xs.length-(intOf v25).toNat)
       case atStart=>exact ⟨0,0,none,0,rfl,by omega,AA rfl,g7,AA (BT.nil _ _),AA (fun _=>rfl),HB7⟩
       case round=>
        clear g6 f6 HB6 g7 f7 HB7 n2 n40 nev
        obtain ⟨i,m,PA,pc,rfl,hi,him,gq,HO,HZ,HBr⟩:=hrel
        by_cases hlt:i<xs.length
        ·have e1:decide ((i:Int)<(xs.length:Int))=true:=decide_eq_true (by omega)
         have hm1:2*m+1<xs.length:=by have:=him.out;omega
         obtain ⟨ad3,rfl,-,-⟩:=HI5.out (by rw [BL];omega)
         obtain ⟨x,hx⟩:∃x,x=xs[2*m]:=⟨_,rfl⟩
         obtain ⟨y,hy⟩:∃y,y=xs[2*m+1]:=⟨_,rfl⟩
         have hpg:=U5 xs m hm1
         rw [<-hx,<-hy] at hpg
         have HX:=AA (gL hpg)
         have QX:∀w0,Below wr.heap.size wr w0->w0.cell? (ad3.add i)=some (.int .i64 x):=fun w0 hI=>by
          obtain ⟨ad',e,-,hc⟩:=(HI5.out.below (bB HBr.out hI)) (by rw [BL];omega)
          obtain rfl:=Option.some.inj e
          have:=hc i (by rw [BL];omega)
          have hi2:=him.out
          subst hi2
          rw [this,hx];simp [AH]
         have QY:∀w0,Below wr.heap.size wr w0->w0.cell? { block:=ad3.block,off:=ad3.off+(i+1) }=some (.int .i64 y):=fun w0 hI=>by
          have ea:({ block:=ad3.block,off:=ad3.off+(i+1) }:Addr)=ad3.add (i+1):=by unfold Addr.add;rw [if_neg (by omega)]
          rw [ea]
          obtain ⟨ad',e,-,hc⟩:=(HI5.out.below (bB HBr.out hI)) (by rw [BL];omega)
          obtain rfl:=Option.some.inj e
          have hi2:=him.out
          have:=hc (i+1) (by rw [BL];omega)
          subst hi2
          rw [this,hy];simp [AH]
         have hT1:((i:Int)+1).toNat=i+1:=by omega
         have hi1:i+1<xs.length:=by have:=him.out;omega
         clear hx hy hpg hm1
         obtain ⟨z1,z2,z3⟩:=AB gq
         go_wp2_with fail
         refine Abs.wp_region_tail (Abs.cls0 _) [0,1,2,3,4,5,6,7,8,9,10,11,12] 13 (by kernel_rfl) (by kernel_rfl) (Below.refl _ _).drew ?_
         (refine Abs.step_pure rfl rfl (fun K hK=>?_);go_simp;(try go_bits);(first|refine hK _ _ ?_|(simp only [↓IntWalk.iteOmega];go_simp;(try go_bits);refine hK _ _ ?_));clear hK K)
         (refine Abs.step_load (v:=?_) rfl rfl (by kernel_rfl) rfl (fun w0 hI=>?_) (fun K hK=>?_);rotate_left;(· have z0:=(AB (kp hI (gq))).1;go_simp;rfl);(simp only [Act.put,lA1,lZ1,lS1];refine hK _ _ ?_;clear hK K))
         iterate 3 (refine Abs.step_pure rfl rfl (fun K hK=>?_);go_simp;(try go_bits);(first|refine hK _ _ ?_|(simp only [↓IntWalk.iteOmega];go_simp;(try go_bits);refine hK _ _ ?_));clear hK K)
         (refine Abs.step_load (v:=?_) rfl rfl (by kernel_rfl) rfl (fun w0 hI=>?_) (fun K hK=>?_);rotate_left;(· have z0:=QX w0 hI;go_simp;rfl);(simp only [Act.put,lA1,lZ1,lS1];refine hK _ _ ?_;clear hK K))
         iterate 4 (refine Abs.step_pure rfl rfl (fun K hK=>?_);go_simp;(try go_bits);(first|refine hK _ _ ?_|(simp only [↓IntWalk.iteOmega];go_simp;(try go_bits);refine hK _ _ ?_));clear hK K)
         (refine Abs.step_load (v:=?_) rfl rfl (by kernel_rfl) rfl (fun w0 hI=>?_) (fun K hK=>?_);rotate_left;(· have z0:=QY w0 hI;go_simp;rfl);(simp only [Act.put,lA1,lZ1,lS1];refine hK _ _ ?_;clear hK K))
         (refine Abs.step_pure rfl rfl (fun K hK=>?_);go_simp;(try go_bits);(first|refine hK _ _ ?_|(simp only [↓IntWalk.iteOmega];go_simp;(try go_bits);refine hK _ _ ?_));clear hK K)
         (refine Abs.step_new (f:=fun g=>.slice (some ⟨g,0,none⟩) 1 1) (obj:=.cells #[.int .i64 x,.int .i64 y] 99) rfl rfl rfl rfl (fun w0=>?_) (fun K hK g_x hv_x hu_x=>?_);(· go_simp;try rfl);(simp only [Act.put,lA1,lZ1,lS1];refine hK _ _ ?_;clear hK K))
         intro w0 hI hF hx1 hx2
         have hlit:=(hF 12).2 rfl
         clear hx1 hx2 hF
         simp only [Abs.T_setF,Abs.T_addA,Abs.T_push,Abs.T_start,List.drop_succ_cons,List.drop_zero]
         have g5:=kp hI gq
         have HO5:=AA (HO.out.lift hI)
         have HK5:=AA (InK.at (k:=2) hlit rfl)
         have HB5:=AA (bB HBr.out hI)
         have hs5:q+1<=w0.heap.size:=(AB g5).2.2
         clear hlit hI z1 z2 z3 hT1 hi1
         have hml:m<=1000:=by have:=him.out;omega
         go_wp2_with (first
          | (refine JT rfl _ _ _ rfl 16 Tryz.underlying22 O5 rfl (by decide) (by decide) (q+1) _ m 1 (AU ((BX xs).take m)) [.int .i64 x,.int .i64 y] (some ⟨g_x,0,none⟩) 1 rfl rfl HO5.out HK5.out (by simp [Value.oneCell']) (by omega) hs5 ?_;intro v6 w6 hO6 hlow6 hsz6;obtain ⟨A6,c6,rfl,-⟩:=hO6.cr;have hb6:=hlow6 w0 (Below.refl _ _);have g6:=(hb6.block q (by omega)).trans g5;have HB6:=AA (HB5.out.trans (hb6.mono (by have:=Hq.out;omega)));have HO6:=AA hO6;clear hlow6 hO6 hb6)
          | (refine NK rfl 22 99 Tryz.underlying22 _ _ rfl q 5 24 _ A6 (m+1) c6 rfl rfl g6 (by simp) (fun w=>Tryz.sizeOf22 w) ?_;generalize hT7:setRow w6 _ _=w7;obtain ⟨hx7,g7⟩:=AK (b0 _) g6 hT7;have HB7:=AA (bX HB6.out hx7 (by have:=Hq.out;omega));have HO7:=AA (HO6.out.excP hx7 (by omega));clear hT7 hx7))
         go_roundw
         case rel=>exact ⟨i+2,m+1,A6,c6,by go_num,by have:=him.out;omega,AA (by have:=him.out;omega),by simpa using g7,AA (by rw [HX.out];exact HO7.out),AA (fun h=>by omega),HB7⟩
         case measure=>simp [intOf];omega
        ·obtain rfl:i=xs.length:=by omega
         have e1:decide ((xs.length:Int)<(xs.length:Int))=false:=decide_eq_false (by omega)
         obtain rfl:m=(BX xs).length:=by rw [NI];have:=him.out;omega
         rw [List.take_length] at HO
         obtain ⟨PA',pc',e,hk3⟩:=HO.out.crS HZ.out
         injection e with e4 e5 e6
         subst e4 e6
         have f9:=kp HBr.out fB
         have g9:=gq
         have HB9:=HBr
         clear gq HBr e5 e1
         have e1:decide ((xs.length:Int)<(xs.length:Int))=false:=decide_eq_false (by omega)
         go_wp2_with fail
         have bO:=FZ (3) nm (0) (0) (0) (PA) ((BX xs).length) (pc)
         obtain ⟨O,hO⟩:∃O,O=OpV.cs ⟨1,3,nm,0,0,0,PA,(BX xs).length,pc,0,⟨#[]⟩,0,0,0,0,⟨#[]⟩,0,0⟩:=⟨_,rfl⟩
         obtain ⟨Y,hY⟩:∃Y,Y=AI 1 ⟨1,3,nm,0,0,0,PA,(BX xs).length,pc,0,⟨#[]⟩,0,0,0,0,⟨#[]⟩,0,0⟩ 0 none 0 0:=⟨_,rfl⟩
         have bY:=D9 ⟨1,3,nm,0,0,0,PA,(BX xs).length,pc,0,⟨#[]⟩,0,0,0,0,⟨#[]⟩,0,0⟩
         have hYs:Y.size=19:=by rw [hY];rfl
         have hY1:Y.all (·.oneCell')=true:=by rw [hY];exact BB _ _ _ _ _ _
         have HC:=AA (show ∀W,Below wr.heap.size wr W->BI w.heap.size W (.agg Y) { ok:=1,mkd:=3,mn:=nm,pts:=BX xs } from by rw [hY];exact fun W hW=>⟨PA,pc,none,0,rfl,(hk3.below hW).mono (by omega),RS.nil _⟩)
         rw [<-hO] at bO bY
         rw [<-hY] at bY
         clear hO hY
         have hBe:=AA (bB hBw.out HB9.out)
         refine Abs.wp_region_abs (Abs.cls _ (fun k=>k=w.heap.size)) [0,1,2,3,4,5,6,7] (by kernel_rfl) (by kernel_rfl) (Below.refl _ _).drew ?_
         (refine Abs.step_load (v:=.agg #[.int .i64 3,.string nm,.int .i64 0,.int .i64 0,.int .i64 0,.slice PA (BX xs).length pc]) rfl rfl (by kernel_rfl) rfl (fun w0 hI=>?_) (fun K hK=>?_);(· have hf:=kp hI g9;exact CA rfl rfl hf _ rfl Tryz.underlying24 AY);(simp only [Act.put,lA1,lZ1,lS1];refine hK _ _ ?_;clear hK K))
         (refine Abs.step_pure rfl rfl (fun K hK=>⟨(.agg O),fun w0=>CN rfl #[(0,.int .i64 1),(1,.agg #[.int .i64 3,.string nm,.int .i64 0,.int .i64 0,.int .i64 0,.slice PA (BX xs).length pc])] (by simp [Act.eval]) (bO _),?_⟩);(simp only [Act.put,lA1,lZ1,lS1];refine hK _ _ ?_;clear hK K))
         (refine Abs.step_pure rfl rfl (fun K hK=>⟨(.agg Y),fun w0=>CN rfl #[(0,.int .i64 1),(1,.agg O)] (by simp [Act.eval]) (bY _),?_⟩);(simp only [Act.put,lA1,lZ1,lS1];refine hK _ _ ?_;clear hK K))
         (refine Abs.step_pure rfl rfl (fun K hK=>?_);go_simp;(try go_bits);(first|refine hK _ _ ?_|(simp only [↓IntWalk.iteOmega];go_simp;(try go_bits);refine hK _ _ ?_));clear hK K)
         (refine Abs.step_late (v:=?_) rfl rfl (fun w0 hI=>?_) (fun K hK=>?_);rotate_left;(· have z0:=(AB (F0 hI (g9) (by have:=Hq.out;omega))).1;go_simp;rfl);(simp only [Act.put,lA1,lZ1,lS1];refine hK _ _ ?_;clear hK K))
         (refine Abs.step_pure rfl rfl (fun K hK=>?_);go_simp;(try go_bits);(first|refine hK _ _ ?_|(simp only [↓IntWalk.iteOmega];go_simp;(try go_bits);refine hK _ _ ?_));clear hK K)
         (refine Abs.step_store (T:=fun w0=>setRow w0 w.heap.size Y) rfl rfl rfl (fun w0 hI hF hU=>?_) (fun w0 hI hU hJ=>js hJ rfl _) (fun K hK=>?_);(· simp only [Abs.T_setF,Abs.T_addA,Abs.T_push,Abs.T_start];exact BJ rfl rfl rfl (kp hI f9) (by rw [AE,hYs]) (by rw [hYs];rfl) hY1);(simp only [Act.put,lA1,lZ1,lS1];refine hK _ _ ?_;clear hK K))
         (refine Abs.step_pure rfl rfl (fun K hK=>?_);go_simp;(try go_bits);(first|refine hK _ _ ?_|(simp only [↓IntWalk.iteOmega];go_simp;(try go_bits);refine hK _ _ ?_));clear hK K)
         intro w0 hI hF hx1 hx2
         clear hx1 hx2 hF
         simp only [Abs.T_setF,Abs.T_addA,Abs.T_push,Abs.T_start]
         have fE:=kp hI f9
         have hBE:=AA (bB hBe.out hI)
         go_wp2_with fail
         exact EQ rfl rfl fE hYs hBE.out (HC.out _ hI) HN2.out
      ·have nev:((xs.length:Int).tmod 2== 0)=false:=by rw [beq_eq_false_iff_ne,Int.tmod_eq_emod_of_nonneg (by omega)];omega
       have HN2:Hid (R=none):=AA (by rw [HN.out,if_neg (by omega)])
       clear HN HI5
       go_wp2_with (first
        | (refine AG rfl _ _ _ rfl w5.heap.size 24 _ #[.int .i64 0,.string nm,.int .i64 0,.int .i64 0,.int .i64 0,.slice none 0 0] rfl rfl (na _ _ _) AY rfl (by simp [Value.oneCell']) ?_;simp only [Act.put];generalize hT6:setRow _ _ _=w6;obtain ⟨hx6,g6⟩:=AK (b0 _) (na w5 _ 24) hT6;have f6:=kx hx6 (kp (bA (b0 _) _) fB) (by have:=Hq.out;omega);have HB6:=AA (bX (bA (b0 w5) _) hx6 (Nat.le_refl _));rw [<-Hq.out] at g6 ⊢;clear hT6 hx6))
       have bO:=FZ (0) nm (0) (0) (0) none (0) (0)
       obtain ⟨O,hO⟩:∃O,O=OpV.cs ⟨1,0,nm,0,0,0,none,0,0,0,⟨#[]⟩,0,0,0,0,⟨#[]⟩,0,0⟩:=⟨_,rfl⟩
       obtain ⟨Y,hY⟩:∃Y,Y=AI 1 ⟨1,0,nm,0,0,0,none,0,0,0,⟨#[]⟩,0,0,0,0,⟨#[]⟩,0,0⟩ 0 none 0 0:=⟨_,rfl⟩
       have bY:=D9 ⟨1,0,nm,0,0,0,none,0,0,0,⟨#[]⟩,0,0,0,0,⟨#[]⟩,0,0⟩
       have hYs:Y.size=19:=by rw [hY];rfl
       have hY1:Y.all (·.oneCell')=true:=by rw [hY];exact BB _ _ _ _ _ _
       rw [<-hO] at bO bY
       rw [<-hY] at bY
       clear hO hY
       have hBe:=AA (bB hBw.out HB6.out)
       refine Abs.wp_region_abs (Abs.cls _ (fun k=>k=w.heap.size)) [0,1,2,3,4,5,6,7] (by kernel_rfl) (by kernel_rfl) (Below.refl _ _).drew ?_
       (refine Abs.step_load (v:=.agg #[.int .i64 0,.string nm,.int .i64 0,.int .i64 0,.int .i64 0,.slice none 0 0]) rfl rfl (by kernel_rfl) rfl (fun w0 hI=>?_) (fun K hK=>?_);(· have hf:=kp hI g6;exact CA rfl rfl hf _ rfl Tryz.underlying24 AY);(simp only [Act.put,lA1,lZ1,lS1];refine hK _ _ ?_;clear hK K))
       (refine Abs.step_pure rfl rfl (fun K hK=>⟨(.agg O),fun w0=>CN rfl #[(0,.int .i64 1),(1,.agg #[.int .i64 0,.string nm,.int .i64 0,.int .i64 0,.int .i64 0,.slice none 0 0])] (by simp [Act.eval]) (bO _),?_⟩);(simp only [Act.put,lA1,lZ1,lS1];refine hK _ _ ?_;clear hK K))
       (refine Abs.step_pure rfl rfl (fun K hK=>⟨(.agg Y),fun w0=>CN rfl #[(0,.int .i64 1),(1,.agg O)] (by simp [Act.eval]) (bY _),?_⟩);(simp only [Act.put,lA1,lZ1,lS1];refine hK _ _ ?_;clear hK K))
       (refine Abs.step_pure rfl rfl (fun K hK=>?_);go_simp;(try go_bits);(first|refine hK _ _ ?_|(simp only [↓IntWalk.iteOmega];go_simp;(try go_bits);refine hK _ _ ?_));clear hK K)
       (refine Abs.step_late (v:=?_) rfl rfl (fun w0 hI=>?_) (fun K hK=>?_);rotate_left;(· have z0:=(AB (F0 hI (g6) (by have:=Hq.out;omega))).1;go_simp;rfl);(simp only [Act.put,lA1,lZ1,lS1];refine hK _ _ ?_;clear hK K))
       (refine Abs.step_pure rfl rfl (fun K hK=>?_);go_simp;(try go_bits);(first|refine hK _ _ ?_|(simp only [↓IntWalk.iteOmega];go_simp;(try go_bits);refine hK _ _ ?_));clear hK K)
       (refine Abs.step_store (T:=fun w0=>setRow w0 w.heap.size Y) rfl rfl rfl (fun w0 hI hF hU=>?_) (fun w0 hI hU hJ=>js hJ rfl _) (fun K hK=>?_);(· simp only [Abs.T_setF,Abs.T_addA,Abs.T_push,Abs.T_start];exact BJ rfl rfl rfl (kp hI f6) (by rw [AE,hYs]) (by rw [hYs];rfl) hY1);(simp only [Act.put,lA1,lZ1,lS1];refine hK _ _ ?_;clear hK K))
       (refine Abs.step_pure rfl rfl (fun K hK=>?_);go_simp;(try go_bits);(first|refine hK _ _ ?_|(simp only [↓IntWalk.iteOmega];go_simp;(try go_bits);refine hK _ _ ?_));clear hK K)
       intro w0 hI hF hx1 hx2
       clear hx1 hx2 hF
       simp only [Abs.T_setF,Abs.T_addA,Abs.T_push,Abs.T_start]
       have fE:=kp hI f6
       have hBE:=AA (bB hBe.out hI)
       go_wp2_with fail
       exact BU rfl rfl fE hYs hBE.out HN2.out
     ·have n40:decide ((xs.length:Int)<=40)=false:=decide_eq_false (by omega)
      have HN2:Hid (R=none):=AA (by rw [HN.out,if_neg (by omega)])
      clear HN HI5
      go_wp2_with (first
       | (refine AG rfl _ _ _ rfl w5.heap.size 24 _ #[.int .i64 0,.string nm,.int .i64 0,.int .i64 0,.int .i64 0,.slice none 0 0] rfl rfl (na _ _ _) AY rfl (by simp [Value.oneCell']) ?_;simp only [Act.put];generalize hT6:setRow _ _ _=w6;obtain ⟨hx6,g6⟩:=AK (b0 _) (na w5 _ 24) hT6;have f6:=kx hx6 (kp (bA (b0 _) _) fB) (by have:=Hq.out;omega);have HB6:=AA (bX (bA (b0 w5) _) hx6 (Nat.le_refl _));rw [<-Hq.out] at g6 ⊢;clear hT6 hx6))
      have bO:=FZ (0) nm (0) (0) (0) none (0) (0)
      obtain ⟨O,hO⟩:∃O,O=OpV.cs ⟨1,0,nm,0,0,0,none,0,0,0,⟨#[]⟩,0,0,0,0,⟨#[]⟩,0,0⟩:=⟨_,rfl⟩
      obtain ⟨Y,hY⟩:∃Y,Y=AI 1 ⟨1,0,nm,0,0,0,none,0,0,0,⟨#[]⟩,0,0,0,0,⟨#[]⟩,0,0⟩ 0 none 0 0:=⟨_,rfl⟩
      have bY:=D9 ⟨1,0,nm,0,0,0,none,0,0,0,⟨#[]⟩,0,0,0,0,⟨#[]⟩,0,0⟩
      have hYs:Y.size=19:=by rw [hY];rfl
      have hY1:Y.all (·.oneCell')=true:=by rw [hY];exact BB _ _ _ _ _ _
      rw [<-hO] at bO bY
      rw [<-hY] at bY
      clear hO hY
      have hBe:=AA (bB hBw.out HB6.out)
      refine Abs.wp_region_abs (Abs.cls _ (fun k=>k=w.heap.size)) [0,1,2,3,4,5,6,7] (by kernel_rfl) (by kernel_rfl) (Below.refl _ _).drew ?_
      (refine Abs.step_load (v:=.agg #[.int .i64 0,.string nm,.int .i64 0,.int .i64 0,.int .i64 0,.slice none 0 0]) rfl rfl (by kernel_rfl) rfl (fun w0 hI=>?_) (fun K hK=>?_);(· have hf:=kp hI g6;exact CA rfl rfl hf _ rfl Tryz.underlying24 AY);(simp only [Act.put,lA1,lZ1,lS1];refine hK _ _ ?_;clear hK K))
      (refine Abs.step_pure rfl rfl (fun K hK=>⟨(.agg O),fun w0=>CN rfl #[(0,.int .i64 1),(1,.agg #[.int .i64 0,.string nm,.int .i64 0,.int .i64 0,.int .i64 0,.slice none 0 0])] (by simp [Act.eval]) (bO _),?_⟩);(simp only [Act.put,lA1,lZ1,lS1];refine hK _ _ ?_;clear hK K))
      (refine Abs.step_pure rfl rfl (fun K hK=>⟨(.agg Y),fun w0=>CN rfl #[(0,.int .i64 1),(1,.agg O)] (by simp [Act.eval]) (bY _),?_⟩);(simp only [Act.put,lA1,lZ1,lS1];refine hK _ _ ?_;clear hK K))
      (refine Abs.step_pure rfl rfl (fun K hK=>?_);go_simp;(try go_bits);(first|refine hK _ _ ?_|(simp only [↓IntWalk.iteOmega];go_simp;(try go_bits);refine hK _ _ ?_));clear hK K)
      (refine Abs.step_late (v:=?_) rfl rfl (fun w0 hI=>?_) (fun K hK=>?_);rotate_left;(· have z0:=(AB (F0 hI (g6) (by have:=Hq.out;omega))).1;go_simp;rfl);(simp only [Act.put,lA1,lZ1,lS1];refine hK _ _ ?_;clear hK K))
      (refine Abs.step_pure rfl rfl (fun K hK=>?_);go_simp;(try go_bits);(first|refine hK _ _ ?_|(simp only [↓IntWalk.iteOmega];go_simp;(try go_bits);refine hK _ _ ?_));clear hK K)
      (refine Abs.step_store (T:=fun w0=>setRow w0 w.heap.size Y) rfl rfl rfl (fun w0 hI hF hU=>?_) (fun w0 hI hU hJ=>js hJ rfl _) (fun K hK=>?_);(· simp only [Abs.T_setF,Abs.T_addA,Abs.T_push,Abs.T_start];exact BJ rfl rfl rfl (kp hI f6) (by rw [AE,hYs]) (by rw [hYs];rfl) hY1);(simp only [Act.put,lA1,lZ1,lS1];refine hK _ _ ?_;clear hK K))
      (refine Abs.step_pure rfl rfl (fun K hK=>?_);go_simp;(try go_bits);(first|refine hK _ _ ?_|(simp only [↓IntWalk.iteOmega];go_simp;(try go_bits);refine hK _ _ ?_));clear hK K)
      intro w0 hI hF hx1 hx2
      clear hx1 hx2 hF
      simp only [Abs.T_setF,Abs.T_addA,Abs.T_push,Abs.T_start]
      have fE:=kp hI f6
      have hBE:=AA (bB hBe.out hI)
      go_wp2_with fail
      exact BU rfl rfl fE hYs hBE.out HN2.out
    ·have n2:decide ((2:Int)<=(xs.length:Int))=false:=decide_eq_false (by omega)
     have HN2:Hid (R=none):=AA (by rw [HN.out,if_neg (by omega)])
     clear HN HI5
     go_wp2_with (first
      | (refine AG rfl _ _ _ rfl w5.heap.size 24 _ #[.int .i64 0,.string nm,.int .i64 0,.int .i64 0,.int .i64 0,.slice none 0 0] rfl rfl (na _ _ _) AY rfl (by simp [Value.oneCell']) ?_;simp only [Act.put];generalize hT6:setRow _ _ _=w6;obtain ⟨hx6,g6⟩:=AK (b0 _) (na w5 _ 24) hT6;have f6:=kx hx6 (kp (bA (b0 _) _) fB) (by have:=Hq.out;omega);have HB6:=AA (bX (bA (b0 w5) _) hx6 (Nat.le_refl _));rw [<-Hq.out] at g6 ⊢;clear hT6 hx6))
     have bO:=FZ (0) nm (0) (0) (0) none (0) (0)
     obtain ⟨O,hO⟩:∃O,O=OpV.cs ⟨1,0,nm,0,0,0,none,0,0,0,⟨#[]⟩,0,0,0,0,⟨#[]⟩,0,0⟩:=⟨_,rfl⟩
     obtain ⟨Y,hY⟩:∃Y,Y=AI 1 ⟨1,0,nm,0,0,0,none,0,0,0,⟨#[]⟩,0,0,0,0,⟨#[]⟩,0,0⟩ 0 none 0 0:=⟨_,rfl⟩
     have bY:=D9 ⟨1,0,nm,0,0,0,none,0,0,0,⟨#[]⟩,0,0,0,0,⟨#[]⟩,0,0⟩
     have hYs:Y.size=19:=by rw [hY];rfl
     have hY1:Y.all (·.oneCell')=true:=by rw [hY];exact BB _ _ _ _ _ _
     rw [<-hO] at bO bY
     rw [<-hY] at bY
     clear hO hY
     have hBe:=AA (bB hBw.out HB6.out)
     refine Abs.wp_region_abs (Abs.cls _ (fun k=>k=w.heap.size)) [0,1,2,3,4,5,6,7] (by kernel_rfl) (by kernel_rfl) (Below.refl _ _).drew ?_
     (refine Abs.step_load (v:=.agg #[.int .i64 0,.string nm,.int .i64 0,.int .i64 0,.int .i64 0,.slice none 0 0]) rfl rfl (by kernel_rfl) rfl (fun w0 hI=>?_) (fun K hK=>?_);(· have hf:=kp hI g6;exact CA rfl rfl hf _ rfl Tryz.underlying24 AY);(simp only [Act.put,lA1,lZ1,lS1];refine hK _ _ ?_;clear hK K))
     (refine Abs.step_pure rfl rfl (fun K hK=>⟨(.agg O),fun w0=>CN rfl #[(0,.int .i64 1),(1,.agg #[.int .i64 0,.string nm,.int .i64 0,.int .i64 0,.int .i64 0,.slice none 0 0])] (by simp [Act.eval]) (bO _),?_⟩);(simp only [Act.put,lA1,lZ1,lS1];refine hK _ _ ?_;clear hK K))
     (refine Abs.step_pure rfl rfl (fun K hK=>⟨(.agg Y),fun w0=>CN rfl #[(0,.int .i64 1),(1,.agg O)] (by simp [Act.eval]) (bY _),?_⟩);(simp only [Act.put,lA1,lZ1,lS1];refine hK _ _ ?_;clear hK K))
     (refine Abs.step_pure rfl rfl (fun K hK=>?_);go_simp;(try go_bits);(first|refine hK _ _ ?_|(simp only [↓IntWalk.iteOmega];go_simp;(try go_bits);refine hK _ _ ?_));clear hK K)
     (refine Abs.step_late (v:=?_) rfl rfl (fun w0 hI=>?_) (fun K hK=>?_);rotate_left;(· have z0:=(AB (F0 hI (g6) (by have:=Hq.out;omega))).1;go_simp;rfl);(simp only [Act.put,lA1,lZ1,lS1];refine hK _ _ ?_;clear hK K))
     (refine Abs.step_pure rfl rfl (fun K hK=>?_);go_simp;(try go_bits);(first|refine hK _ _ ?_|(simp only [↓IntWalk.iteOmega];go_simp;(try go_bits);refine hK _ _ ?_));clear hK K)
     (refine Abs.step_store (T:=fun w0=>setRow w0 w.heap.size Y) rfl rfl rfl (fun w0 hI hF hU=>?_) (fun w0 hI hU hJ=>js hJ rfl _) (fun K hK=>?_);(· simp only [Abs.T_setF,Abs.T_addA,Abs.T_push,Abs.T_start];exact BJ rfl rfl rfl (kp hI f6) (by rw [AE,hYs]) (by rw [hYs];rfl) hY1);(simp only [Act.put,lA1,lZ1,lS1];refine hK _ _ ?_;clear hK K))
     (refine Abs.step_pure rfl rfl (fun K hK=>?_);go_simp;(try go_bits);(first|refine hK _ _ ?_|(simp only [↓IntWalk.iteOmega];go_simp;(try go_bits);refine hK _ _ ?_));clear hK K)
     intro w0 hI hF hx1 hx2
     clear hx1 hx2 hF
     simp only [Abs.T_setF,Abs.T_addA,Abs.T_push,Abs.T_start]
     have fE:=kp hI f6
     have hBE:=AA (bB hBe.out hI)
     go_wp2_with fail
     exact BU rfl rfl fE hYs hBE.out HN2.out
theorem gT (hd nm:ByteArray) (r:List ByteArray) (hc0:hd≠DO) (hd0:hd≠DI) (ha0:hd≠CL) (hr0:hd≠DP) (hno:∀j,1<=j->j<8->AW j≠hd) (hb:NoBare hd) (a6:(hd.toList== ([114,101,97,100]:List UInt8))=false) (a7:(hd.toList== ([98,117,99,107,101,116,115]:List UInt8))=false) (hn:nm.size<=40) (s:ByteArray) (hs:s.size<=1000000) (h:rW s.data.toList ⟨#[]⟩ []=some (hd::nm::r)) (hl:r.length<=1000000) (hz:∀x ∈ r,x.size<=1000000) (w:World) :
  Calls Tryz.prog 11 #[.string s] w (RPq (match AL r with|some xs=>BS hd nm xs|none=>none) w):=by
 have c0:=D8 s hs (w.alloc (.cells AD 48))
 rw [h] at c0
 obtain ⟨R,hR⟩:∃R:Option Cm,R=(match AL r with|some xs=>BS hd nm xs|none=>none):=⟨_,rfl⟩
 rw [<-hR]
 have HR:=AA hR
 clear hR h
 have f1:=na w AD 48
 have hb1:=bA (b0 w) (.cells AD 48)
 obtain ⟨a1,a2,a3,a4,a5⟩:=hb
 go_enter Tryz.func11,Tryz.ntmps11
 go_wp2_with fail
 refine c0.mono ?_
 rintro e w2 ⟨v,rfl,hO,hb2⟩
 obtain ⟨A,c,rfl,hr⟩:=hO.cr
 have f2:=kp hb2 f1
 have HB:=AA (bB hb1 hb2)
 have hzc:=BF
 have h1:=C2
 have hcap:=hr.cap
 have hin:=hr.inV
 rw [BG] at hcap
 obtain ⟨ad,rfl,hal,hc⟩:=hr.inV (by simp [AC])
 have q0:=hc 0 (by simp [AC])
 have q1:=hc 1 (by simp [AC])
 simp only [AC,List.map_cons,List.getElem_cons_zero,List.getElem_cons_succ,CJ] at q0 q1
 have q1:w2.cell? ⟨ad.block,ad.off+1,none⟩=some (.string nm):=by simpa [Addr.add] using q1
 rw [BG]
 have hin2:=GQ (j:=2) hcap hin
 have e9:(hd::nm::r).drop 2=r:=rfl
 rw [e9] at hin2
 obtain ⟨A1,hA1⟩:∃A1,A1=some (if c-2=0 then ad else ad.add 2):=⟨_,rfl⟩
 obtain ⟨c1,hc1⟩:∃c1,c1=c-2:=⟨_,rfl⟩
 rw [<-hA1] at hin2
 have HA1:=AA hA1
 have HC1:=AA hc1
 clear hA1 hc1
 have e0:(hd::nm::r).length=r.length+2:=rfl
 rw [e0] at hcap ⊢
 have e2:decide ((r.length:Int)+2<2)=false:=decide_eq_false (by omega)
 have e3:decide ((40:Int)<(nm.size:Int))=false:=decide_eq_false (by omega)
 have cN:=GO A1 c1 r hl hz w2 hin2
 clear c0 hb1 hO hc hr hz e0 hin hin2
 go_wp2_with (refine GP rfl _ _ rfl ad (r.length+2) c 2 rfl rfl (by omega) hcap A1 r.length c1 HA1.out rfl HC1.out ?_;simp only [Act.put,lA1,lZ1,lS1])
 refine cN.mono ?_
 rintro e w3 hp3
 have hB:=HB.out
 cases hp:AL r with
 | none=>
  rw [hp] at hp3
  obtain ⟨rfl,hb3⟩:=hp3
  have f3:=kp hb3 f2
  have HB3:=AA (bB hB hb3)
  have HN:Hid (R=none):=AA (by rw [HR.out,hp])
  clear hp hB hb3 f2 cN q0 q1
  go_wp2_with (first|(refine BC rfl _ _ rfl (.agg AD) #[] (by simp [Act.eval]) (C3 _) ?_;simp only [Act.put,lA1,lZ1,lS1])|(refine AG rfl _ _ _ rfl w.heap.size 48 _ AD rfl rfl f3 (by rw [AE,hzc]) rfl h1 ?_;simp only [Act.put]))
  exact BU rfl rfl f3 BF HB3.out HN.out
 | some xs=>
  rw [hp] at hp3
  obtain ⟨v3,rfl,hO3,hb3⟩:=hp3
  have f3:=kp hb3 f2
  have HB3:=AA (bB hB hb3)
  obtain ⟨A3,c3,rfl,hr3⟩:=hO3.cr
  have HI3:=AA hr3.inV
  have HN:Hid (R=BS hd nm xs):=AA (by rw [HR.out,hp])
  rw [BL]
  clear hp hB hb3 f2 cN q0 q1 hO3 hr3 hal HR HB HA1 HC1 hcap a1 a2 a3 a4 a5 a6 a7 e2 e3
  have HN2:Hid (R=none):=AA (by
   rw [HN.out]
   unfold BS
   rw [U4 hno,if_neg (by omega),if_neg hc0,if_neg hd0,if_neg ha0,if_neg hr0])
  have HNO:=AA hno
  clear hno
  go_wp2_with fail
  go_loopw [22] (fun v22 wr=>∃(k:Nat),v22=.int .i64 (k:Int)/\1<=k/\k<=8/\Hid (Below w3.heap.size w3 wr)) (fun v22 _=>9-(intOf v22).toNat)
  case atStart=>exact ⟨1,rfl,by omega,by omega,AA (b0 _)⟩
  case round=>
   obtain ⟨k,rfl,hk1,hkk,HBr⟩:=hrel
   rcases Nat.lt_or_ge k 8 with hlt|hge
   ·have e1:decide ((k:Int)<=7)=true:=decide_eq_true (by omega)
    have cW:=fun W=>GM k (by omega) W
    have hx:AW k≠hd:=HNO.out k hk1 hlt
    have ex:=eqF hx
    generalize AW k=K at *
    clear hx
    go_wp2_with fail
    refine (cW _).mono ?_
    rintro e w5 ⟨rfl,hb5⟩
    have HB5:=AA (bB HBr.out hb5)
    go_wp2_with fail
    go_roundw
    case rel=>exact ⟨k+1,by go_num,by omega,by omega,HB5⟩
    case measure=>simp [intOf];omega
   ·have e1:decide ((k:Int)<=7)=false:=decide_eq_false (by omega)
    obtain ⟨w5,hw5⟩:∃w5,w5=wr:=⟨_,rfl⟩
    rw [<-hw5] at HBr ⊢
    clear hw5
    have fB:=kp HBr.out f3
    obtain ⟨q,hq⟩:∃q,q=w5.heap.size:=⟨_,rfl⟩
    have hqw:w.heap.size<q:=by rw [hq];exact (AB fB).2.2
    have Hq:=AA hq
    have hBw:=AA (bB HB3.out HBr.out)
    have HI5:=AA (HI3.out.below HBr.out)
    clear HNO HBr f3 HI3 hq
    have bc:(hd.toList== ([99,114,101,97,116,101]:List UInt8))=false:=BQ _ hc0
    have bd:(hd.toList== ([100,114,111,112]:List UInt8))=false:=BQ _ hd0
    have ba:(hd.toList== ([97,112,112,101,110,100]:List UInt8))=false:=BQ _ ha0
    have br:(hd.toList== ([114,101,116,97,105,110]:List UInt8))=false:=BQ _ hr0
    clear hc0 hd0 ha0 hr0 HI5 HN
    go_wp2_with (first
     | (refine AG rfl _ _ _ rfl w5.heap.size 24 _ #[.int .i64 0,.string nm,.int .i64 0,.int .i64 0,.int .i64 0,.slice none 0 0] rfl rfl (na _ _ _) AY rfl (by simp [Value.oneCell']) ?_;simp only [Act.put];generalize hT6:setRow _ _ _=w6;obtain ⟨hx6,g6⟩:=AK (b0 _) (na w5 _ 24) hT6;have f6:=kx hx6 (kp (bA (b0 _) _) fB) (by have:=Hq.out;omega);have HB6:=AA (bX (bA (b0 w5) _) hx6 (Nat.le_refl _));rw [<-Hq.out] at g6 ⊢;clear hT6 hx6))
    have bO:=FZ (0) nm (0) (0) (0) none (0) (0)
    obtain ⟨O,hO⟩:∃O,O=OpV.cs ⟨1,0,nm,0,0,0,none,0,0,0,⟨#[]⟩,0,0,0,0,⟨#[]⟩,0,0⟩:=⟨_,rfl⟩
    obtain ⟨Y,hY⟩:∃Y,Y=AI 1 ⟨1,0,nm,0,0,0,none,0,0,0,⟨#[]⟩,0,0,0,0,⟨#[]⟩,0,0⟩ 0 none 0 0:=⟨_,rfl⟩
    have bY:=D9 ⟨1,0,nm,0,0,0,none,0,0,0,⟨#[]⟩,0,0,0,0,⟨#[]⟩,0,0⟩
    have hYs:Y.size=19:=by rw [hY];rfl
    have hY1:Y.all (·.oneCell')=true:=by rw [hY];exact BB _ _ _ _ _ _
    rw [<-hO] at bO bY
    rw [<-hY] at bY
    clear hO hY
    have hBe:=AA (bB hBw.out HB6.out)
    refine Abs.wp_region_abs (Abs.cls _ (fun k=>k=w.heap.size)) [0,1,2,3,4,5,6,7] (by kernel_rfl) (by kernel_rfl) (Below.refl _ _).drew ?_
    (refine Abs.step_load (v:=.agg #[.int .i64 0,.string nm,.int .i64 0,.int .i64 0,.int .i64 0,.slice none 0 0]) rfl rfl (by kernel_rfl) rfl (fun w0 hI=>?_) (fun K hK=>?_);(· have hf:=kp hI g6;exact CA rfl rfl hf _ rfl Tryz.underlying24 AY);(simp only [Act.put,lA1,lZ1,lS1];refine hK _ _ ?_;clear hK K))
    (refine Abs.step_pure rfl rfl (fun K hK=>⟨(.agg O),fun w0=>CN rfl #[(0,.int .i64 1),(1,.agg #[.int .i64 0,.string nm,.int .i64 0,.int .i64 0,.int .i64 0,.slice none 0 0])] (by simp [Act.eval]) (bO _),?_⟩);(simp only [Act.put,lA1,lZ1,lS1];refine hK _ _ ?_;clear hK K))
    (refine Abs.step_pure rfl rfl (fun K hK=>⟨(.agg Y),fun w0=>CN rfl #[(0,.int .i64 1),(1,.agg O)] (by simp [Act.eval]) (bY _),?_⟩);(simp only [Act.put,lA1,lZ1,lS1];refine hK _ _ ?_;clear hK K))
    (refine Abs.step_pure rfl rfl (fun K hK=>?_);go_simp;(try go_bits);(first|refine hK _ _ ?_|(simp only [↓IntWalk.iteOmega];go_simp;(try go_bits);refine hK _ _ ?_));clear hK K)
    (refine Abs.step_late (v:=?_) rfl rfl (fun w0 hI=>?_) (fun K hK=>?_);rotate_left;(· have z0:=(AB (F0 hI (g6) (by have:=Hq.out;omega))).1;go_simp;rfl);(simp only [Act.put,lA1,lZ1,lS1];refine hK _ _ ?_;clear hK K))
    (refine Abs.step_pure rfl rfl (fun K hK=>?_);go_simp;(try go_bits);(first|refine hK _ _ ?_|(simp only [↓IntWalk.iteOmega];go_simp;(try go_bits);refine hK _ _ ?_));clear hK K)
    (refine Abs.step_store (T:=fun w0=>setRow w0 w.heap.size Y) rfl rfl rfl (fun w0 hI hF hU=>?_) (fun w0 hI hU hJ=>js hJ rfl _) (fun K hK=>?_);(· simp only [Abs.T_setF,Abs.T_addA,Abs.T_push,Abs.T_start];exact BJ rfl rfl rfl (kp hI f6) (by rw [AE,hYs]) (by rw [hYs];rfl) hY1);(simp only [Act.put,lA1,lZ1,lS1];refine hK _ _ ?_;clear hK K))
    (refine Abs.step_pure rfl rfl (fun K hK=>?_);go_simp;(try go_bits);(first|refine hK _ _ ?_|(simp only [↓IntWalk.iteOmega];go_simp;(try go_bits);refine hK _ _ ?_));clear hK K)
    intro w0 hI hF hx1 hx2
    clear hx1 hx2 hF
    simp only [Abs.T_setF,Abs.T_addA,Abs.T_push,Abs.T_start]
    have fE:=kp hI f6
    have hBE:=AA (bB hBe.out hI)
    go_wp2_with fail
    exact BU rfl rfl fE hYs hBE.out HN2.out
theorem P7:∀(l acc:List UInt8),(spl acc l).length<=l.length+1
 | [],acc=>by simp [spl]
 | c::l,acc=>by
  have h1:=P7 l []
  have h2:=P7 l (acc++[c])
  unfold spl
  split <;> simp only [List.length_cons] <;> omega
theorem P8:∀(l acc:List UInt8) (p:List UInt8),p ∈ spl acc l->p.length<=acc.length+l.length
 | [],acc,p,h=>by
  simp only [spl,List.mem_singleton] at h
  subst h
  simp
 | c::l,acc,p,h=>by
  unfold spl at h
  split at h
  ·rcases List.mem_cons.1 h with rfl|h
   ·simp
   ·have:=P8 l [] p h
    simp only [List.length_cons,List.length_nil] at this ⊢
    omega
  ·have:=P8 l (acc++[c]) p h
   simp only [List.length_append,List.length_cons,List.length_nil] at this ⊢
   omega
theorem gU {s:ByteArray} (hs:s.size<=10000) {ws:List ByteArray} (h:rW s.data.toList ⟨#[]⟩ []=some ws):ws≠[]/\ws.length<=1000000/\∀x ∈ ws,x.size<=1000000:=by
 rw [LF] at h
 split at h
 ·have hl:s.data.toList.length=s.size:=by simp
  simp only [List.nil_append,Option.some.injEq] at h
  subst h
  refine ⟨?_,?_,?_⟩
  ·intro e
   have e2:=congrArg List.length e
   have h3:∀(l acc:List UInt8),0<(spl acc l).length:=fun l=>by
    induction l with
    | nil=>intro acc;simp [spl]
    | cons c l ih=>intro acc;unfold spl;split;· simp
                   ·exact ih _
   have:=h3 s.data.toList []
   simp only [List.length_map,List.length_nil] at e2
   omega
  ·have:=P7 s.data.toList []
   rw [List.length_map]
   omega
  ·intro x hx
   obtain ⟨p,hp,rfl⟩:=List.mem_map.1 hx
   have:=P8 _ _ p hp
   have e:(toB p).size=p.length:=by unfold toB;simp [ByteArray.size]
   simp only [List.length_nil] at this
   have e0:((⟨#[]⟩:ByteArray).data.toList).length=0:=rfl
   omega
 ·cases h
theorem I5 (s:ByteArray) (hs:s.size<=10000) (w:World):Calls Tryz.prog 11 #[.string s] w (RPq (LG s) w):=by
 unfold LG
 cases h:rW s.data.toList ⟨#[]⟩ [] with
 | none=>exact fQ s (by omega) h w
 | some ws=>
  obtain ⟨hne,hl,hz⟩:=gU hs h
  match ws,hne with
  | hd::l,_=>
   have hs6:s.size<=1000000:=by omega
   have hl1:l.length<=1000000:=by simp only [List.length_cons] at hl;omega
   have hz1:∀x ∈ l,x.size<=1000000:=fun x hx=>hz x (List.mem_cons_of_mem _ hx)
   simp only [J3]
   by_cases h1:hd=CV
   ·rw [if_pos h1];exact P4 2 hd (.inl ⟨rfl,h1⟩) l s hs6 h w
   rw [if_neg h1]
   by_cases h2:hd=CW
   ·rw [if_pos h2];exact P4 3 hd (.inr (.inl ⟨rfl,h2⟩)) l s hs6 h w
   rw [if_neg h2]
   by_cases h3:hd=CX
   ·rw [if_pos h3];exact P4 4 hd (.inr (.inr ⟨rfl,h3⟩)) l s hs6 h w
   rw [if_neg h3]
   by_cases h4:hd=B2
   ·rw [if_pos h4];exact fT hd h4 l s hs6 h hl1 hz1 w
   rw [if_neg h4]
   by_cases h5:hd=B3
   ·rw [if_pos h5];exact gA hd h5 l s hs6 h hl1 hz1 w
   rw [if_neg h5]
   have hb:=NoBare.of h1 h2 h3 h4 h5
   match l with
   | []=>exact fU hd hb s hs6 h w
   | nm::r=>
    have hl2:r.length<=1000000:=by simp only [List.length_cons] at hl1;omega
    have hz2:∀x ∈ r,x.size<=1000000:=fun x hx=>hz1 x (List.mem_cons_of_mem _ hx)
    by_cases hn:nm.size<=40
    ·simp only [if_pos hn]
     by_cases h6:hd=EP
     ·rw [if_pos h6];exact fX hd nm r hb (FE _ h6) hn s hs6 h hz2 w
     rw [if_neg h6]
     have a6:(hd.toList== ([114,101,97,100]:List UInt8))=false:=BQ _ h6
     by_cases h7:hd=E7
     ·rw [if_pos h7];exact gC hd nm r hb a6 (FE _ h7) hn s hs6 h hz2 w
     rw [if_neg h7]
     have a7:(hd.toList== ([98,117,99,107,101,116,115]:List UInt8))=false:=BQ _ h7
     by_cases hk:∃k,1<=k/\k<=7/\AW k=hd
     ·obtain ⟨k,k1,k7,e⟩:=hk
      exact gK hd nm r k k1 k7 e hb a6 a7 hn s hs6 h hl2 hz2 w
     have hno:∀j,1<=j->j<8->AW j≠hd:=fun j j1 j8 e=>hk ⟨j,j1,by omega,e⟩
     by_cases hc:hd=DO
     ·exact gP hd nm r hc hno hb a6 a7 hn s hs6 h hl2 hz2 w
     by_cases hd':hd=DI
     ·exact gQ hd nm r hd' hno hb a6 a7 hn s hs6 h hl2 hz2 w
     by_cases ha:hd=CL
     ·exact gS hd nm r ha hno hb a6 a7 hn s hs6 h hl2 hz2 w
     by_cases hr:hd=DP
     ·exact gR hd nm r hr hno hb a6 a7 hn s hs6 h hl2 hz2 w
     exact gT hd nm r hc hd' ha hr hno hb a6 a7 hn s hs6 h hl2 hz2 w
    ·simp only [if_neg hn]
     exact fV hd nm r hb hn s hs6 h w
end Go.Proofs.YtlnonecibpjcoaaGreatDoor
namespace Go.Proofs.Tryz
open Go.Proofs.Ex Go.RowKit Go.Proofs.YtlnonecibpjcoaaGreatDoor
theorem gV:B6 prog 50 a0A a0H 38 b0V b0H 200:=.ofRun IG EG qM
theorem gX:LkOK prog xC0:=EG.with (MW gV EG.orx)
theorem gY:B6 prog 51 a1A a1H 201 b1V b1H 600:=.ofRun IG EG qS
theorem gZ:LkOK prog xC1:=EG.with (MW gY gX.orx)
theorem iA:B6 prog 51 a2A a2H 1622 b2V b2H 2021:=.ofRun IG EG qW
theorem iB:LkOK prog xC2:=EG.with (MW iA gZ.orx)
noncomputable def iC:Array Oper:=nX (GF (MT f240) [0])
theorem U7:f240.body=some (.seq (.region 0 iC false) (GF (MT f240) [1])):=by kernel_rfl
theorem iD:B6 prog 173 a3A a3H 2040 z3v OP 2055 :=
 B6.catch IG EG (OJ IG EG 5000) rM rL ⟨f240,_,(by kernel_rfl),U7⟩ (OK.of EG (OJ IG EG 5000) (fd:=f240) (by kernel_rfl) U7 rfl rN rO rP rQ) rR
theorem iE:LkOK prog xC3:=EG.with (MW iD iB.orx)
theorem iF:B6 prog 21 [.string SE] .nil 0 (.tuple #[.string SJ,.int .i64 0,.int .i64 0]) .nil 2066:=.ofRun IG iE rS
theorem iG:LkOK prog xC4:=EG.with (MW iF EG.orx)
theorem iH:EE (.bool true) .nil 2082 (RW prog xC4 7 [] 20000)=true:=by kernel_rfl
theorem wakes31 (w:World) (hL:Laid w):Calls prog 7 #[] w fun e w'=>e=.returned (.bool true)/\Below w.heap.size w w' :=
 nW IG iG iH LIs.nil (Is.closed rfl) w ⟨hL,fun k hk=>pJ hL k hk⟩
end Go.Proofs.Tryz
namespace Go.Proofs.YtlnonecibpjcoaaGreatDoor
open Go.RowKit
attribute [local go_sem] Oper.semAt_some
theorem InK.inV {w:World} {X:Option Addr} {n k:Nat} {xs:List Value} (h:InK w X n k xs):InV w X xs:=fun h0=>by
 have hl:=h.1
 have hn:0<n:=by
  rcases Nat.eq_zero_or_pos n with e|e
  ·subst e;rw [Nat.zero_mul] at hl;omega
  ·exact e
 obtain ⟨ad,e,h1,h2⟩:=h.2 hn
 exact ⟨ad,e,h1,fun i hi=>by rw [h2 i (by omega),List.getElem?_eq_getElem hi]⟩
theorem iI {P:Program} {ops:Array Oper} {Q:Exit->Act->World->Prop} {a:Act} {w:World} {rest:List Oper} {o:Oper} (hw:Region.wanted o (yielded ops a.tmps)=true)
  (h:∀K:Act->World->Prop,(∀a w,wpList P ops Q rest a w->K a w)->o.wp P a w K Q):wpList P ops Q (o::rest) a w :=
 wpList_step fun K hK=>by rw [if_pos hw];exact h K hK
theorem DL {ops:Array Oper} {rest:List Oper} {o:Oper} {a:Act} {w:World} {Q:Exit->Act->World->Prop} (hgd:Region.wanted o (yielded ops a.tmps)=true) (t:TypeId) (p:Operand)
  (ho:o.op=.load t p) (g:Nat) (T:TypeId) (cs:Array Value) (hp:a.eval p=.pointer (some ⟨g,0,none⟩))
  (hg:w.heap[g]?=some (.cells cs T (0,0))) (d:TypeDesc) (hd:d.isRow=true) (hu:Tryz.prog.underlying t=some d) (hi:(Tryz.prog.info? t).map (·.size)=some cs.size)
  (h:wpList Tryz.prog ops Q rest (a.put o.dst (.agg cs)) w):wpList Tryz.prog ops Q (o::rest) a w:=by
 refine iI hgd fun _ hK=>?_
 unfold Oper.wp execOp
 simp only [ho,hp,Instr.loadAt,Instr.sureAddr,Sem.run_bind,Sem.run_pure,Result.andThen_ok]
 rw [run_loadVar_row w g T t cs (0,0) d hg hu (by cases d <;> first|rfl|cases hd) hi]
 exact hK _ _ h
end Go.Proofs.YtlnonecibpjcoaaGreatDoor
