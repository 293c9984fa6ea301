/- The document's a. -/
import Derived.Test.YtlnonecibpjcoaaGreatDoorPa
import Derived.Test.YtlnonecibpjcoaaGreatDoorPy
set_option linter.all false
set_option maxRecDepth 100000
set_option maxHeartbeats 16000000
namespace Go.Proofs.YtlnonecibpjcoaaGreatDoor
open Go.RowKit
attribute [local go_sem] Oper.semAt_some
theorem P6 {x:ByteArray} {k:Nat} (h1:1<=k) (h7:k<=7) (e:AW k=x):D7 x=k:=by
 subst e
 obtain rfl|rfl|rfl|rfl|rfl|rfl|rfl:k=1∨k=2∨k=3∨k=4∨k=5∨k=6∨k=7:=by omega
 all_goals decide
theorem U4 {x:ByteArray} (h:∀j,1<=j->j<8->AW j≠x):D7 x=0:=by
 have h1:x≠CG:=fun e=>h 1 (by omega) (by omega) (by rw [e];rfl)
 have h2:x≠CK:=fun e=>h 2 (by omega) (by omega) (by rw [e];rfl)
 have h3:x≠CU:=fun e=>h 3 (by omega) (by omega) (by rw [e];rfl)
 have h4:x≠C1:=fun e=>h 4 (by omega) (by omega) (by rw [e];rfl)
 have h5:x≠C8:=fun e=>h 5 (by omega) (by omega) (by rw [e];rfl)
 have h6:x≠wAt:=fun e=>h 6 (by omega) (by omega) (by rw [e];rfl)
 have h7:x≠EN:=fun e=>h 7 (by omega) (by omega) (by rw [e];rfl)
 unfold D7
 rw [if_neg h1,if_neg h2,if_neg h3,if_neg h4,if_neg h5,if_neg h6,if_neg h7]
theorem FF {ops:Array Oper} {rest:List Oper} {o:Oper} {a:Act} {w:World} {Q:Exit->Act->World->Prop} (hgd:o.guard=none) (t:TypeId) (p x:Operand)
  (ho:o.op=.store t p x) (g i:Nat) (T:TypeId) (old:Array Value) (kd:IntKind) (z:Int) (hp:a.eval p=.pointer (some ⟨g,i,none⟩)) (hx:a.eval x=.int kd z)
  (hg:w.heap[g]?=some (.cells old T (0,0))) (hi:i<old.size) (hz:∀w,(sizeOf t).run Tryz.prog w=.ok 1 w)
  (h:wpList Tryz.prog ops Q rest (a.put o.dst undef) (setRow w g (old.setIfInBounds i (.int kd z)))):wpList Tryz.prog ops Q (o::rest) a w:=by
 have hrun:(Instr.storeAt t (.pointer (some ⟨g,i,none⟩)) (.int kd z)).run Tryz.prog w=.ok () (w.setCell ⟨g,i,none⟩ (.int kd z)):=by
  obtain ⟨z1,z2,z3⟩:=AB hg
  have e1:w.cell? ⟨g,i,none⟩=some old[i]:=by rw [z1];simp [hi]
  have e2:=z2 i
  simp [Instr.storeAt,Instr.sureAddr,storeVar,hz,storeCells,go_sem,e1,e2]
 refine wpList_plain hgd fun _ hK=>?_
 unfold Oper.wp execOp
 simp only [ho,hp,hx,Sem.run_bind,Sem.run_pure,Result.andThen_ok,hrun]
 rw [DH hg _ rfl]
 exact hK _ _ h
theorem gK (hd nm:ByteArray) (r:List ByteArray) (k0:Nat) (hk01:1<=k0) (hk07:k0<=7) (hk:AW k0=hd) (hb:NoBare hd) (a6:(hd.toList== ([114,101,97,100]:List UInt8))=false) (a7:(hd.toList== ([98,117,99,107,101,116,115]:List UInt8))=false) (hn:nm.size<=40) (s:ByteArray) (hs:s.size<=1000000) (h:rW s.data.toList ⟨#[]⟩ []=some (hd::nm::r)) (hl:r.length<=1000000) (hz:∀x ∈ r,x.size<=1000000) (w:World) :
  Calls Tryz.prog 11 #[.string s] w (RPq (match AL r with|some xs=>BS hd nm xs|none=>none) w):=by
 have c0:=D8 s hs (w.alloc (.cells AD 48))
 rw [h] at c0
 obtain ⟨R,hR⟩:∃R:Option Cm,R=(match AL r with|some xs=>BS hd nm xs|none=>none):=⟨_,rfl⟩
 rw [<-hR]
 have HR:=AA hR
 clear hR h
 have f1:=na w AD 48
 have hb1:=bA (b0 w) (.cells AD 48)
 obtain ⟨a1,a2,a3,a4,a5⟩:=hb
 go_enter Tryz.func11,Tryz.ntmps11
 go_wp2_with fail
 refine c0.mono ?_
 rintro e w2 ⟨v,rfl,hO,hb2⟩
 obtain ⟨A,c,rfl,hr⟩:=hO.cr
 have f2:=kp hb2 f1
 have HB:=AA (bB hb1 hb2)
 have hzc:=BF
 have h1:=C2
 have hcap:=hr.cap
 have hin:=hr.inV
 rw [BG] at hcap
 obtain ⟨ad,rfl,hal,hc⟩:=hr.inV (by simp [AC])
 have q0:=hc 0 (by simp [AC])
 have q1:=hc 1 (by simp [AC])
 simp only [AC,List.map_cons,List.getElem_cons_zero,List.getElem_cons_succ,CJ] at q0 q1
 have q1:w2.cell? ⟨ad.block,ad.off+1,none⟩=some (.string nm):=by simpa [Addr.add] using q1
 rw [BG]
 have hin2:=GQ (j:=2) hcap hin
 have e9:(hd::nm::r).drop 2=r:=rfl
 rw [e9] at hin2
 obtain ⟨A1,hA1⟩:∃A1,A1=some (if c-2=0 then ad else ad.add 2):=⟨_,rfl⟩
 obtain ⟨c1,hc1⟩:∃c1,c1=c-2:=⟨_,rfl⟩
 rw [<-hA1] at hin2
 have HA1:=AA hA1
 have HC1:=AA hc1
 clear hA1 hc1
 have e0:(hd::nm::r).length=r.length+2:=rfl
 rw [e0] at hcap ⊢
 have e2:decide ((r.length:Int)+2<2)=false:=decide_eq_false (by omega)
 have e3:decide ((40:Int)<(nm.size:Int))=false:=decide_eq_false (by omega)
 have cN:=GO A1 c1 r hl hz w2 hin2
 clear c0 hb1 hO hc hr hz e0 hin hin2
 go_wp2_with (refine GP rfl _ _ rfl ad (r.length+2) c 2 rfl rfl (by omega) hcap A1 r.length c1 HA1.out rfl HC1.out ?_;simp only [Act.put,lA1,lZ1,lS1])
 refine cN.mono ?_
 rintro e w3 hp3
 have hB:=HB.out
 cases hp:AL r with
 | none=>
  rw [hp] at hp3
  obtain ⟨rfl,hb3⟩:=hp3
  have f3:=kp hb3 f2
  have HB3:=AA (bB hB hb3)
  have HN:Hid (R=none):=AA (by rw [HR.out,hp])
  clear hp hB hb3 f2 cN q0 q1
  go_wp2_with (first|(refine BC rfl _ _ rfl (.agg AD) #[] (by simp [Act.eval]) (C3 _) ?_;simp only [Act.put,lA1,lZ1,lS1])|(refine AG rfl _ _ _ rfl w.heap.size 48 _ AD rfl rfl f3 (by rw [AE,hzc]) rfl h1 ?_;simp only [Act.put]))
  exact BU rfl rfl f3 BF HB3.out HN.out
 | some xs=>
  rw [hp] at hp3
  obtain ⟨v3,rfl,hO3,hb3⟩:=hp3
  have f3:=kp hb3 f2
  have HB3:=AA (bB hB hb3)
  obtain ⟨A3,c3,rfl,hr3⟩:=hO3.cr
  have HI3:=AA hr3.inV
  have HN:Hid (R=BS hd nm xs):=AA (by rw [HR.out,hp])
  rw [BL]
  clear hp hB hb3 f2 cN q0 q1 hO3 hr3 hal HR HB HA1 HC1 hcap a1 a2 a3 a4 a5 a6 a7 e2 e3
  have hK0:=P6 hk01 hk07 hk
  have HK0:=AA hk
  unfold BS at HN
  rw [hK0,if_pos (by omega)] at HN
  clear hk
  go_wp2_with fail
  go_loopw [22] (fun v22 wr=>∃(k:Nat),v22=.int .i64 (k:Int)/\1<=k/\k<=k0/\Hid (Below w3.heap.size w3 wr)) (fun v22 _=>8-(intOf v22).toNat)
  case atStart=>exact ⟨1,rfl,by omega,by omega,AA (b0 _)⟩
  case round=>
   obtain ⟨k,rfl,hk1,hkk,HBr⟩:=hrel
   have e1:decide ((k:Int)<=7)=true:=decide_eq_true (by omega)
   have cW:=fun W=>GM k (by omega) W
   rcases Nat.lt_or_ge k k0 with hlt|hge
   ·have hx:AW k≠hd:=fun e=>by
     have h:=P6 hk1 (by omega) e
     omega
    have ex:=eqF hx
    generalize AW k=K at *
    clear hx
    go_wp2_with fail
    refine (cW _).mono ?_
    rintro e w5 ⟨rfl,hb5⟩
    have HB5:=AA (bB HBr.out hb5)
    go_wp2_with fail
    go_roundw
    case rel=>exact ⟨k+1,by go_num,by omega,by omega,HB5⟩
    case measure=>simp [intOf];omega
   ·obtain rfl:k=k0:=by omega
    have ex:=eqT HK0.out
    clear hge HK0
    generalize AW k=K at *
    have f4:=kp HBr.out f3
    go_wp2_with fail
    refine (cW _).mono ?_
    rintro e w5 ⟨rfl,hb5⟩
    have HB5:=AA (bB HBr.out hb5)
    have fB:=kp hb5 f4
    obtain ⟨q,hq⟩:∃q,q=w5.heap.size:=⟨_,rfl⟩
    have hqw:w.heap.size<q:=by rw [hq];exact (AB fB).2.2
    have Hq:=AA hq
    have hBw:=AA (bB HB3.out HB5.out)
    have HI5:=AA (HI3.out.below HB5.out)
    clear HBr hb5 f4 cW f3 HI3 hK0 hq
    have HY0:=fun (a b:Int)=>AA (show ∃O Y:Array Value,(∀W,(Instr.build 29 #[(0,.int .i64 5),(2,.agg #[.int .i64 (k:Int),.string nm,.int .i64 a,.int .i64 b,.int .i64 0,.int .i64 0])]).run Tryz.prog W=.ok (.agg O) W)/\(∀W,(Instr.build 48 #[(0,.int .i64 1),(1,.agg O)]).run Tryz.prog W=.ok (.agg Y) W)/\Y.size=19/\Y.all (·.oneCell')=true/\(∀W,BI w.heap.size W (.agg Y) { ok:=5,qk:=(k:Int),qn:=nm,qa:=a,qb:=b }) from
     ⟨_,_,fun W=>UV (k:Int) nm a b 0 0 W,fun W=>D9 ⟨5,0,⟨#[]⟩,0,0,0,none,0,0,(k:Int),nm,a,b,0,0,⟨#[]⟩,0,0⟩ W,rfl,BB _ _ _ _ _ _,fun W=>⟨none,0,none,0,rfl,RS.nil _,RS.nil _⟩⟩)
    by_cases h6:k=6
    ·subst h6
     rw [if_pos rfl] at HN
     by_cases hx1:xs.length=1
     ·match xs,hx1 with
      | [a],_=>
       have HN2:Hid (R=some { ok:=5,qk:=((6:Nat):Int),qn:=nm,qa:=a,qb:=0 }):=AA (by rw [HN.out];rfl)
       obtain ⟨ad3,rfl,hal3,hc3⟩:=HI5.out (by simp [AH])
       have p0:=hc3 0 (by simp [AH])
       simp only [AH,List.map_cons,List.getElem_cons_zero,CJ] at p0
       obtain ⟨O,Y,bO,bY,hYs,hY1,hC⟩:=(HY0 a 0).out
       have HC:=AA hC
       simp only [List.length_cons,List.length_nil]
       clear hc3 HI5 HN HY0 hC
       go_wp2_with (first
        | (refine AG rfl _ _ _ rfl w5.heap.size 26 _ #[.int .i64 ((6:Nat):Int),.string nm,.int .i64 0,.int .i64 0,.int .i64 0,.int .i64 0] rfl rfl (na _ _ _) EY rfl (by simp [Value.oneCell']) ?_;simp only [Act.put];generalize hT6:setRow _ _ _=w6;obtain ⟨hx6,g6⟩:=AK (b0 _) (na w5 _ 26) hT6;have f6:=kx hx6 (kp (bA (b0 _) _) fB) (by have:=Hq.out;omega);have HB6:=AA (bX (bA (b0 w5) _) hx6 (Nat.le_refl _));rw [<-Hq.out] at g6 ⊢;have p0:=(HB6.out.cell (p:=ad3) hal3).trans p0;clear hT6 hx6)
        | (refine FF rfl 2 _ _ rfl q 2 26 _ .i64 a rfl rfl g6 (by simp) (fun w=>Tryz.sizeOf2 w) ?_;generalize hT7:setRow _ _ _=w7;obtain ⟨hx7,g7⟩:=AK (b0 _) g6 hT7;simp only [lA1,lZ1,lS1] at g7;have f7:=kx hx7 f6 (by omega);have HB7:=AA (bX HB6.out hx7 (by have:=Hq.out;omega));clear hT7 hx7)
        | (refine DU rfl _ _ rfl q 26 #[.int .i64 ((6:Nat):Int),.string nm,.int .i64 a,.int .i64 0,.int .i64 0,.int .i64 0] rfl g7 _ rfl Tryz.underlying26 EY ?_;simp only [Act.put,lA1,lZ1,lS1])
        | (refine BC rfl _ _ rfl (.agg O) #[(0,.int .i64 5),(2,.agg #[.int .i64 ((6:Nat):Int),.string nm,.int .i64 a,.int .i64 0,.int .i64 0,.int .i64 0])] (by simp [Act.eval]) (bO _) ?_;simp only [Act.put,lA1,lZ1,lS1])|(refine BC rfl _ _ rfl (.agg Y) #[(0,.int .i64 1),(1,.agg O)] (by simp [Act.eval]) (bY _) ?_;simp only [Act.put,lA1,lZ1,lS1])|(refine AG rfl _ _ _ rfl w.heap.size 48 _ Y rfl rfl f7 (by rw [AE,hYs]) (by rw [hYs];rfl) hY1 ?_;simp only [Act.put]))
       exact EQ rfl rfl f7 hYs (bB hBw.out HB7.out) (HC.out _) HN2.out
     ·have HN2:Hid (R=none):=AA (by
       rw [HN.out]
       match xs,hx1 with
       | [],_=>rfl
       | _::_::_,_=>rfl)
      have e5:((xs.length:Int) != 1)=true:=by simp;omega
      have e6:((xs.length:Int)== 1)=false:=by simp;omega
      have e7:decide ((xs.length:Int)=1)=false:=decide_eq_false (by omega)
      clear HI5 HN HY0
      go_wp2_with (first
        | (refine AG rfl _ _ _ rfl w5.heap.size 26 _ #[.int .i64 ((6:Nat):Int),.string nm,.int .i64 0,.int .i64 0,.int .i64 0,.int .i64 0] rfl rfl (na _ _ _) EY rfl (by simp [Value.oneCell']) ?_;simp only [Act.put];generalize hT6:setRow _ _ _=w6;obtain ⟨hx6,g6⟩:=AK (b0 _) (na w5 _ 26) hT6;have f6:=kx hx6 (kp (bA (b0 _) _) fB) (by have:=Hq.out;omega);have HB6:=AA (bX (bA (b0 w5) _) hx6 (Nat.le_refl _));rw [<-Hq.out] at g6 ⊢;clear hT6 hx6)
        | (refine BC rfl _ _ rfl (.agg AD) #[] (by simp [Act.eval]) (C3 _) ?_;simp only [Act.put,lA1,lZ1,lS1])|(refine AG rfl _ _ _ rfl w.heap.size 48 _ AD rfl rfl f6 (by rw [AE,hzc]) rfl h1 ?_;simp only [Act.put]))
      exact BU rfl rfl f6 BF (bB hBw.out HB6.out) HN2.out
    ·have k5:((k:Int) != 6)=true:=by simp;omega
     have k6:((k:Int)== 6)=false:=by simp;omega
     have k7:decide ((k:Int)=6)=false:=decide_eq_false (by omega)
     rw [if_neg h6] at HN
     by_cases hx2:xs.length=2
     ·match xs,hx2 with
      | [a,b],_=>
       have HN2:Hid (R=some { ok:=5,qk:=(k:Int),qn:=nm,qa:=a,qb:=b }):=AA (by rw [HN.out])
       obtain ⟨ad3,rfl,hal3,hc3⟩:=HI5.out (by simp [AH])
       have p0:=hc3 0 (by simp [AH])
       have p1:=hc3 1 (by simp [AH])
       simp only [AH,List.map_cons,List.getElem_cons_zero,List.getElem_cons_succ,CJ] at p0 p1
       have p1:w5.cell? ⟨ad3.block,ad3.off+1,none⟩=some (.int .i64 b):=by simpa [Addr.add] using p1
       obtain ⟨O,Y,bO,bY,hYs,hY1,hC⟩:=(HY0 a b).out
       have HC:=AA hC
       simp only [List.length_cons,List.length_nil]
       clear hc3 HI5 HN HY0 hC
       go_wp2_with (first
        | (refine AG rfl _ _ _ rfl w5.heap.size 26 _ #[.int .i64 (k:Int),.string nm,.int .i64 0,.int .i64 0,.int .i64 0,.int .i64 0] rfl rfl (na _ _ _) EY rfl (by simp [Value.oneCell']) ?_;simp only [Act.put];generalize hT6:setRow _ _ _=w6;obtain ⟨hx6,g6⟩:=AK (b0 _) (na w5 _ 26) hT6;have f6:=kx hx6 (kp (bA (b0 _) _) fB) (by have:=Hq.out;omega);have HB6:=AA (bX (bA (b0 w5) _) hx6 (Nat.le_refl _));rw [<-Hq.out] at g6 ⊢;have p0_6:=(HB6.out.cell (p:=ad3) hal3).trans p0;clear hT6 hx6)
        | (refine FF rfl 2 _ _ rfl q 2 26 _ .i64 a rfl rfl g6 (by simp) (fun w=>Tryz.sizeOf2 w) ?_;generalize hT7:setRow _ _ _=w7;obtain ⟨hx7,g7⟩:=AK (b0 _) g6 hT7;simp only [lA1,lZ1,lS1] at g7;have f7:=kx hx7 f6 (by omega);have HB7:=AA (bX HB6.out hx7 (by have:=Hq.out;omega));have p1_7:=(HB7.out.cell (p:=⟨ad3.block,ad3.off+1,none⟩) hal3).trans p1;clear hT7 hx7)
        | (refine FF rfl 2 _ _ rfl q 3 26 _ .i64 b rfl rfl g7 (by simp) (fun w=>Tryz.sizeOf2 w) ?_;generalize hT8:setRow _ _ _=w8;obtain ⟨hx8,g8⟩:=AK (b0 _) g7 hT8;simp only [lA1,lZ1,lS1] at g8;have f8:=kx hx8 f7 (by omega);have HB8:=AA (bX HB7.out hx8 (by have:=Hq.out;omega));clear hT8 hx8)
        | (refine DU rfl _ _ rfl q 26 #[.int .i64 (k:Int),.string nm,.int .i64 a,.int .i64 b,.int .i64 0,.int .i64 0] rfl g8 _ rfl Tryz.underlying26 EY ?_;simp only [Act.put,lA1,lZ1,lS1])
        | (refine BC rfl _ _ rfl (.agg O) #[(0,.int .i64 5),(2,.agg #[.int .i64 (k:Int),.string nm,.int .i64 a,.int .i64 b,.int .i64 0,.int .i64 0])] (by simp [Act.eval]) (bO _) ?_;simp only [Act.put,lA1,lZ1,lS1])|(refine BC rfl _ _ rfl (.agg Y) #[(0,.int .i64 1),(1,.agg O)] (by simp [Act.eval]) (bY _) ?_;simp only [Act.put,lA1,lZ1,lS1])|(refine AG rfl _ _ _ rfl w.heap.size 48 _ Y rfl rfl f8 (by rw [AE,hYs]) (by rw [hYs];rfl) hY1 ?_;simp only [Act.put]))
       exact EQ rfl rfl f8 hYs (bB hBw.out HB8.out) (HC.out _) HN2.out
     ·have HN2:Hid (R=none):=AA (by
       rw [HN.out]
       match xs,hx2 with
       | [],_=>rfl
       | [_],_=>rfl
       | _::_::_::_,_=>rfl)
      have e5:((xs.length:Int) != 2)=true:=by simp;omega
      have e6:((xs.length:Int)== 2)=false:=by simp;omega
      have e7:decide ((xs.length:Int)=2)=false:=decide_eq_false (by omega)
      clear HI5 HN HY0
      go_wp2_with (first
        | (refine AG rfl _ _ _ rfl w5.heap.size 26 _ #[.int .i64 (k:Int),.string nm,.int .i64 0,.int .i64 0,.int .i64 0,.int .i64 0] rfl rfl (na _ _ _) EY rfl (by simp [Value.oneCell']) ?_;simp only [Act.put];generalize hT6:setRow _ _ _=w6;obtain ⟨hx6,g6⟩:=AK (b0 _) (na w5 _ 26) hT6;have f6:=kx hx6 (kp (bA (b0 _) _) fB) (by have:=Hq.out;omega);have HB6:=AA (bX (bA (b0 w5) _) hx6 (Nat.le_refl _));rw [<-Hq.out] at g6 ⊢;clear hT6 hx6)
        | (refine BC rfl _ _ rfl (.agg AD) #[] (by simp [Act.eval]) (C3 _) ?_;simp only [Act.put,lA1,lZ1,lS1])|(refine AG rfl _ _ _ rfl w.heap.size 48 _ AD rfl rfl f6 (by rw [AE,hzc]) rfl h1 ?_;simp only [Act.put]))
      exact BU rfl rfl f6 BF (bB hBw.out HB6.out) HN2.out
theorem CA {ρ:Operand->Value} {o:Oper} {t:TypeId} {p:Operand} {g:Nat} {T:TypeId} {cs:Array Value} {w:World} (ho:o.op=.load t p) (hp:ρ p=.pointer (some ⟨g,0,none⟩)) (hg:w.heap[g]?=some (.cells cs T (0,0)))
  (d:TypeDesc) (hd:d.isRow=true) (hu:Tryz.prog.underlying t=some d) (hi:(Tryz.prog.info? t).map (·.size)=some cs.size):(execOp ρ o).run Tryz.prog w=.ok (.value (.agg cs)) w:=by
 unfold execOp
 simp only [ho,hp,Instr.loadAt,Instr.sureAddr,Sem.run_bind,Sem.run_pure,Result.andThen_ok]
 rw [run_loadVar_row w g T t cs (0,0) d hg hu (by cases d <;> first|rfl|cases hd) hi]
 rfl
theorem CN {ρ:Operand->Value} {o:Oper} {t:TypeId} {ps:Array (Nat×Operand)} {v:Value} {w:World} (ho:o.op=.build t ps) (qs:Array (Nat×Value)) (hp:(ps.map fun (i,x)=>(i,ρ x))=qs) (hv:(Instr.build t qs).run Tryz.prog w=.ok v w):(execOp ρ o).run Tryz.prog w=.ok (.value v) w:=by
 subst hp
 unfold execOp
 simp only [ho,Sem.run_bind,Sem.run_pure,Result.andThen_ok]
 rw [hv]
 rfl
theorem FZ (kd:Int) (nm:ByteArray) (a f s:Int) (A:Option Addr) (n c:Nat) (w:World):(Instr.build 29 #[(0,.int .i64 1),(1,.agg #[.int .i64 kd,.string nm,.int .i64 a,.int .i64 f,.int .i64 s,.slice A n c])]).run Tryz.prog w=.ok (.agg (OpV.cs ⟨1,kd,nm,a,f,s,A,n,c,0,⟨#[]⟩,0,0,0,0,⟨#[]⟩,0,0⟩)) w:=by kernel_rfl
theorem U5:∀(xs:List Int) (m:Nat) (h:2*m+1<xs.length),(BX xs)[m]?=some (xs[2*m]'(by omega),xs[2*m+1]'h)
 | [],m,h=>by simp at h
 | [_],m,h=>by simp at h
 | x::y::l,0,h=>rfl
 | x::y::l,m+1,h=>by
  have h':2*m+1<l.length:=by simp only [List.length_cons] at h;omega
  rw [BX,List.getElem?_cons_succ,U5 l m h']
  have e1:2*(m+1)=2*m+1+1:=by omega
  have e2:2*(m+1)+1=2*m+1+1+1:=by omega
  simp only [e1,List.getElem_cons_succ]
theorem gL {ps:List (Int×Int)} {m:Nat} {x y:Int} (h:ps[m]?=some (x,y)):AU (ps.take (m+1))=AU (ps.take m)++[.int .i64 x,.int .i64 y]:=by
 rw [List.take_add_one,h,Option.toList_some,TJ]
 rfl
theorem F0 {W w0:World} {sto:Nat->Prop} {k:Nat} {cs:Array Value} {t:TypeId} (h:(Abs.cls W sto).J w0) (hc:W.heap[k]?=some (.cells cs t (0,0))) (hk:¬sto k):w0.heap[k]?=some (.cells cs t (0,0)) :=
 (h.2 k (Array.getElem?_eq_some_iff.1 hc).1 hk).trans hc
def mkR (nm:ByteArray):List Int->Option Cm
 | [a,b]=>some { ok:=1,mkd:=1,mn:=nm,me:=a,ms:=b }
 | _=>none
def drR (nm:ByteArray):List Int->Option Cm
 | []=>some { ok:=1,mkd:=2,mn:=nm }
 | _=>none
def rtR (nm:ByteArray):List Int->Option Cm
 | [a]=>some { ok:=1,mkd:=4,mn:=nm,mf:=a }
 | _=>none
theorem gM (nm:ByteArray) (xs:List Int):BS DO nm xs=mkR nm xs:=by
 have e:BS DO nm xs=(match xs with|[a,b]=>some { ok:=1,mkd:=1,mn:=nm,me:=a,ms:=b }|_=>none):=rfl
 rw [e]
 rcases xs with _|⟨a,_|⟨b,_|⟨c,l⟩⟩⟩ <;> rfl
theorem gN (nm:ByteArray) (xs:List Int):BS DI nm xs=drR nm xs:=by
 have e:BS DI nm xs=(match xs with|[]=>some { ok:=1,mkd:=2,mn:=nm }|_=>none):=rfl
 rw [e]
 rcases xs with _|⟨a,l⟩ <;> rfl
theorem gO (nm:ByteArray) (xs:List Int):BS DP nm xs=rtR nm xs:=by
 have e:BS DP nm xs=(match xs with|[a]=>some { ok:=1,mkd:=4,mn:=nm,mf:=a }|_=>none):=rfl
 rw [e]
 rcases xs with _|⟨a,_|⟨c,l⟩⟩ <;> rfl
theorem gP (hd nm:ByteArray) (r:List ByteArray) (hh:hd=DO) (hno:∀j,1<=j->j<8->AW j≠hd) (hb:NoBare hd) (a6:(hd.toList== ([114,101,97,100]:List UInt8))=false) (a7:(hd.toList== ([98,117,99,107,101,116,115]:List UInt8))=false) (hn:nm.size<=40) (s:ByteArray) (hs:s.size<=1000000) (h:rW s.data.toList ⟨#[]⟩ []=some (hd::nm::r)) (hl:r.length<=1000000) (hz:∀x ∈ r,x.size<=1000000) (w:World) :
  Calls Tryz.prog 11 #[.string s] w (RPq (match AL r with|some xs=>BS hd nm xs|none=>none) w):=by
 have c0:=D8 s hs (w.alloc (.cells AD 48))
 rw [h] at c0
 obtain ⟨R,hR⟩:∃R:Option Cm,R=(match AL r with|some xs=>BS hd nm xs|none=>none):=⟨_,rfl⟩
 rw [<-hR]
 have HR:=AA hR
 clear hR h
 have HH:=AA hh
 clear hh
 have f1:=na w AD 48
 have hb1:=bA (b0 w) (.cells AD 48)
 obtain ⟨a1,a2,a3,a4,a5⟩:=hb
 go_enter Tryz.func11,Tryz.ntmps11
 go_wp2_with fail
 refine c0.mono ?_
 rintro e w2 ⟨v,rfl,hO,hb2⟩
 obtain ⟨A,c,rfl,hr⟩:=hO.cr
 have f2:=kp hb2 f1
 have HB:=AA (bB hb1 hb2)
 have hzc:=BF
 have h1:=C2
 have hcap:=hr.cap
 have hin:=hr.inV
 rw [BG] at hcap
 obtain ⟨ad,rfl,hal,hc⟩:=hr.inV (by simp [AC])
 have q0:=hc 0 (by simp [AC])
 have q1:=hc 1 (by simp [AC])
 simp only [AC,List.map_cons,List.getElem_cons_zero,List.getElem_cons_succ,CJ] at q0 q1
 have q1:w2.cell? ⟨ad.block,ad.off+1,none⟩=some (.string nm):=by simpa [Addr.add] using q1
 rw [BG]
 have hin2:=GQ (j:=2) hcap hin
 have e9:(hd::nm::r).drop 2=r:=rfl
 rw [e9] at hin2
 obtain ⟨A1,hA1⟩:∃A1,A1=some (if c-2=0 then ad else ad.add 2):=⟨_,rfl⟩
 obtain ⟨c1,hc1⟩:∃c1,c1=c-2:=⟨_,rfl⟩
 rw [<-hA1] at hin2
 have HA1:=AA hA1
 have HC1:=AA hc1
 clear hA1 hc1
 have e0:(hd::nm::r).length=r.length+2:=rfl
 rw [e0] at hcap ⊢
 have e2:decide ((r.length:Int)+2<2)=false:=decide_eq_false (by omega)
 have e3:decide ((40:Int)<(nm.size:Int))=false:=decide_eq_false (by omega)
 have cN:=GO A1 c1 r hl hz w2 hin2
 clear c0 hb1 hO hc hr hz e0 hin hin2
 go_wp2_with (refine GP rfl _ _ rfl ad (r.length+2) c 2 rfl rfl (by omega) hcap A1 r.length c1 HA1.out rfl HC1.out ?_;simp only [Act.put,lA1,lZ1,lS1])
 refine cN.mono ?_
 rintro e w3 hp3
 have hB:=HB.out
 cases hp:AL r with
 | none=>
  rw [hp] at hp3
  obtain ⟨rfl,hb3⟩:=hp3
  have f3:=kp hb3 f2
  have HB3:=AA (bB hB hb3)
  have HN:Hid (R=none):=AA (by rw [HR.out,hp])
  clear hp hB hb3 f2 cN q0 q1
  go_wp2_with (first|(refine BC rfl _ _ rfl (.agg AD) #[] (by simp [Act.eval]) (C3 _) ?_;simp only [Act.put,lA1,lZ1,lS1])|(refine AG rfl _ _ _ rfl w.heap.size 48 _ AD rfl rfl f3 (by rw [AE,hzc]) rfl h1 ?_;simp only [Act.put]))
  exact BU rfl rfl f3 BF HB3.out HN.out
 | some xs=>
  rw [hp] at hp3
  obtain ⟨v3,rfl,hO3,hb3⟩:=hp3
  have f3:=kp hb3 f2
  have HB3:=AA (bB hB hb3)
  obtain ⟨A3,c3,rfl,hr3⟩:=hO3.cr
  have HI3:=AA hr3.inV
  have HN:Hid (R=BS hd nm xs):=AA (by rw [HR.out,hp])
  rw [BL]
  clear hp hB hb3 f2 cN q0 q1 hO3 hr3 hal HR HB HA1 HC1 hcap a1 a2 a3 a4 a5 a6 a7 e2 e3
  have HN:Hid (R=mkR nm xs):=AA (by rw [HN.out,HH.out];exact gM nm xs)
  have HNO:=AA hno
  clear hno
  go_wp2_with fail
  go_loopw [22] (fun v22 wr=>∃(k:Nat),v22=.int .i64 (k:Int)/\1<=k/\k<=8/\Hid (Below w3.heap.size w3 wr)) (fun v22 _=>9-(intOf v22).toNat)
  case atStart=>exact ⟨1,rfl,by omega,by omega,AA (b0 _)⟩
  case round=>
   obtain ⟨k,rfl,hk1,hkk,HBr⟩:=hrel
   rcases Nat.lt_or_ge k 8 with hlt|hge
   ·have e1:decide ((k:Int)<=7)=true:=decide_eq_true (by omega)
    have cW:=fun W=>GM k (by omega) W
    have hx:AW k≠hd:=HNO.out k hk1 hlt
    have ex:=eqF hx
    generalize AW k=K at *
    clear hx
    go_wp2_with fail
    refine (cW _).mono ?_
    rintro e w5 ⟨rfl,hb5⟩
    have HB5:=AA (bB HBr.out hb5)
    go_wp2_with fail
    go_roundw
    case rel=>exact ⟨k+1,by go_num,by omega,by omega,HB5⟩
    case measure=>simp [intOf];omega
   ·have e1:decide ((k:Int)<=7)=false:=decide_eq_false (by omega)
    obtain ⟨w5,hw5⟩:∃w5,w5=wr:=⟨_,rfl⟩
    rw [<-hw5] at HBr ⊢
    clear hw5
    have fB:=kp HBr.out f3
    obtain ⟨q,hq⟩:∃q,q=w5.heap.size:=⟨_,rfl⟩
    have hqw:w.heap.size<q:=by rw [hq];exact (AB fB).2.2
    have Hq:=AA hq
    have hBw:=AA (bB HB3.out HBr.out)
    have HI5:=AA (HI3.out.below HBr.out)
    clear HNO HBr f3 HI3 hq
    have bc:(hd.toList== ([99,114,101,97,116,101]:List UInt8))=true:=FE _ (by rw [HH.out];rfl)
    have bd:(hd.toList== ([100,114,111,112]:List UInt8))=false:=BQ _ (by rw [HH.out];decide)
    have ba:(hd.toList== ([97,112,112,101,110,100]:List UInt8))=false:=BQ _ (by rw [HH.out];decide)
    have br:(hd.toList== ([114,101,116,97,105,110]:List UInt8))=false:=BQ _ (by rw [HH.out];decide)
    clear HH
    by_cases hx:xs.length=2
    ·match xs,hx with
     | [a,b],_=>
      have HN2:Hid (R=some { ok:=1,mkd:=1,mn:=nm,me:=a,ms:=b }):=AA (HN.out.trans rfl)
      obtain ⟨ad3,rfl,hal3,hc3⟩:=HI5.out (by simp [AH])
      have p0:=hc3 0 (by simp [AH])
      have p1:=hc3 1 (by simp [AH])
      simp only [AH,List.map_cons,List.getElem_cons_zero,List.getElem_cons_succ,CJ] at p0 p1
      have p1:w5.cell? ⟨ad3.block,ad3.off+1,none⟩=some (.int .i64 b):=by simpa [Addr.add] using p1
      simp only [List.length_cons,List.length_nil]
      clear hc3 HI5 HN
      go_wp2_with (first
       | (refine AG rfl _ _ _ rfl w5.heap.size 24 _ #[.int .i64 0,.string nm,.int .i64 0,.int .i64 0,.int .i64 0,.slice none 0 0] rfl rfl (na _ _ _) AY rfl (by simp [Value.oneCell']) ?_;simp only [Act.put];generalize hT6:setRow _ _ _=w6;obtain ⟨hx6,g6⟩:=AK (b0 _) (na w5 _ 24) hT6;have f6:=kx hx6 (kp (bA (b0 _) _) fB) (by have:=Hq.out;omega);have HB6:=AA (bX (bA (b0 w5) _) hx6 (Nat.le_refl _));rw [<-Hq.out] at g6 ⊢;clear hT6 hx6)
       | (refine FF rfl 3 _ _ rfl q 0 24 _ .i64 1 rfl rfl g6 (by simp) (fun w=>Tryz.sizeOf3 w) ?_;generalize hT7:setRow _ _ _=w7;obtain ⟨hx7,g7⟩:=AK (b0 _) g6 hT7;simp only [lA1,lZ1,lS1] at g7;have f7:=kx hx7 f6 (by omega);have HB7:=AA (bX HB6.out hx7 (by have:=Hq.out;omega));have p0_7:=(HB7.out.cell (p:=ad3) hal3).trans p0;clear hT7 hx7)
       | (refine FF rfl 2 _ _ rfl q 2 24 _ .i64 a rfl rfl g7 (by simp) (fun w=>Tryz.sizeOf2 w) ?_;generalize hT8:setRow _ _ _=w8;obtain ⟨hx8,g8⟩:=AK (b0 _) g7 hT8;simp only [lA1,lZ1,lS1] at g8;have f8:=kx hx8 f7 (by omega);have HB8:=AA (bX HB7.out hx8 (by have:=Hq.out;omega));have p1_8:=(HB8.out.cell (p:=⟨ad3.block,ad3.off+1,none⟩) hal3).trans p1;clear hT8 hx8)
       | (refine FF rfl 3 _ _ rfl q 4 24 _ .i64 b rfl rfl g8 (by simp) (fun w=>Tryz.sizeOf3 w) ?_;generalize hT9:setRow _ _ _=w9;obtain ⟨hx9,g9⟩:=AK (b0 _) g8 hT9;simp only [lA1,lZ1,lS1] at g9;have f9:=kx hx9 f8 (by omega);have HB9:=AA (bX HB8.out hx9 (by have:=Hq.out;omega));clear hT9 hx9))
      have bO:=FZ (1) nm (a) (0) (b) none (0) (0)
      obtain ⟨O,hO⟩:∃O,O=OpV.cs ⟨1,1,nm,a,0,b,none,0,0,0,⟨#[]⟩,0,0,0,0,⟨#[]⟩,0,0⟩:=⟨_,rfl⟩
      obtain ⟨Y,hY⟩:∃Y,Y=AI 1 ⟨1,1,nm,a,0,b,none,0,0,0,⟨#[]⟩,0,0,0,0,⟨#[]⟩,0,0⟩ 0 none 0 0:=⟨_,rfl⟩
      have bY:=D9 ⟨1,1,nm,a,0,b,none,0,0,0,⟨#[]⟩,0,0,0,0,⟨#[]⟩,0,0⟩
      have hYs:Y.size=19:=by rw [hY];rfl
      have hY1:Y.all (·.oneCell')=true:=by rw [hY];exact BB _ _ _ _ _ _
      have HC:=AA (show ∀W,BI w.heap.size W (.agg Y) { ok:=1,mkd:=1,mn:=nm,me:=a,ms:=b } from by rw [hY];exact fun W=>⟨none,0,none,0,rfl,RS.nil _,RS.nil _⟩)
      rw [<-hO] at bO bY
      rw [<-hY] at bY
      clear hO hY
      have hBe:=AA (bB hBw.out HB9.out)
      refine Abs.wp_region_abs (Abs.cls _ (fun k=>k=w.heap.size)) [0,1,2,3,4,5,6,7] (by kernel_rfl) (by kernel_rfl) (Below.refl _ _).drew ?_
      (refine Abs.step_load (v:=.agg #[.int .i64 1,.string nm,.int .i64 a,.int .i64 0,.int .i64 b,.slice none 0 0]) rfl rfl (by kernel_rfl) rfl (fun w0 hI=>?_) (fun K hK=>?_);(· have hf:=kp hI g9;exact CA rfl rfl hf _ rfl Tryz.underlying24 AY);(simp only [Act.put,lA1,lZ1,lS1];refine hK _ _ ?_;clear hK K))
      (refine Abs.step_pure rfl rfl (fun K hK=>⟨(.agg O),fun w0=>CN rfl #[(0,.int .i64 1),(1,.agg #[.int .i64 1,.string nm,.int .i64 a,.int .i64 0,.int .i64 b,.slice none 0 0])] (by simp [Act.eval]) (bO _),?_⟩);(simp only [Act.put,lA1,lZ1,lS1];refine hK _ _ ?_;clear hK K))
      (refine Abs.step_pure rfl rfl (fun K hK=>⟨(.agg Y),fun w0=>CN rfl #[(0,.int .i64 1),(1,.agg O)] (by simp [Act.eval]) (bY _),?_⟩);(simp only [Act.put,lA1,lZ1,lS1];refine hK _ _ ?_;clear hK K))
      (refine Abs.step_pure rfl rfl (fun K hK=>?_);go_simp;(try go_bits);(first|refine hK _ _ ?_|(simp only [↓IntWalk.iteOmega];go_simp;(try go_bits);refine hK _ _ ?_));clear hK K)
      (refine Abs.step_late (v:=?_) rfl rfl (fun w0 hI=>?_) (fun K hK=>?_);rotate_left;(· have z0:=(AB (F0 hI (g9) (by have:=Hq.out;omega))).1;go_simp;rfl);(simp only [Act.put,lA1,lZ1,lS1];refine hK _ _ ?_;clear hK K))
      (refine Abs.step_pure rfl rfl (fun K hK=>?_);go_simp;(try go_bits);(first|refine hK _ _ ?_|(simp only [↓IntWalk.iteOmega];go_simp;(try go_bits);refine hK _ _ ?_));clear hK K)
      (refine Abs.step_store (T:=fun w0=>setRow w0 w.heap.size Y) rfl rfl rfl (fun w0 hI hF hU=>?_) (fun w0 hI hU hJ=>js hJ rfl _) (fun K hK=>?_);(· simp only [Abs.T_setF,Abs.T_addA,Abs.T_push,Abs.T_start];exact BJ rfl rfl rfl (kp hI f9) (by rw [AE,hYs]) (by rw [hYs];rfl) hY1);(simp only [Act.put,lA1,lZ1,lS1];refine hK _ _ ?_;clear hK K))
      (refine Abs.step_pure rfl rfl (fun K hK=>?_);go_simp;(try go_bits);(first|refine hK _ _ ?_|(simp only [↓IntWalk.iteOmega];go_simp;(try go_bits);refine hK _ _ ?_));clear hK K)
      intro w0 hI hF hx1 hx2
      clear hx1 hx2 hF
      simp only [Abs.T_setF,Abs.T_addA,Abs.T_push,Abs.T_start]
      have fE:=kp hI f9
      have hBE:=AA (bB hBe.out hI)
      go_wp2_with fail
      exact EQ rfl rfl fE hYs hBE.out (HC.out _) HN2.out
    ·have HN2:Hid (R=none):=AA (by
      rw [HN.out]
      match xs,hx with
      | [],_=>rfl
      | [_],_=>rfl
      | _::_::_::_,_=>rfl)
     have e5:((xs.length:Int)== 2)=false:=beq_eq_false_iff_ne.2 (by omega)
     have e7:decide ((xs.length:Int)=2)=false:=decide_eq_false (by omega)
     clear HN HI5
     go_wp2_with (first
      | (refine AG rfl _ _ _ rfl w5.heap.size 24 _ #[.int .i64 0,.string nm,.int .i64 0,.int .i64 0,.int .i64 0,.slice none 0 0] rfl rfl (na _ _ _) AY rfl (by simp [Value.oneCell']) ?_;simp only [Act.put];generalize hT6:setRow _ _ _=w6;obtain ⟨hx6,g6⟩:=AK (b0 _) (na w5 _ 24) hT6;have f6:=kx hx6 (kp (bA (b0 _) _) fB) (by have:=Hq.out;omega);have HB6:=AA (bX (bA (b0 w5) _) hx6 (Nat.le_refl _));rw [<-Hq.out] at g6 ⊢;clear hT6 hx6))
     have bO:=FZ (0) nm (0) (0) (0) none (0) (0)
     obtain ⟨O,hO⟩:∃O,O=OpV.cs ⟨1,0,nm,0,0,0,none,0,0,0,⟨#[]⟩,0,0,0,0,⟨#[]⟩,0,0⟩:=⟨_,rfl⟩
     obtain ⟨Y,hY⟩:∃Y,Y=AI 1 ⟨1,0,nm,0,0,0,none,0,0,0,⟨#[]⟩,0,0,0,0,⟨#[]⟩,0,0⟩ 0 none 0 0:=⟨_,rfl⟩
     have bY:=D9 ⟨1,0,nm,0,0,0,none,0,0,0,⟨#[]⟩,0,0,0,0,⟨#[]⟩,0,0⟩
     have hYs:Y.size=19:=by rw [hY];rfl
     have hY1:Y.all (·.oneCell')=true:=by rw [hY];exact BB _ _ _ _ _ _
     rw [<-hO] at bO bY
     rw [<-hY] at bY
     clear hO hY
     have hBe:=AA (bB hBw.out HB6.out)
     refine Abs.wp_region_abs (Abs.cls _ (fun k=>k=w.heap.size)) [0,1,2,3,4,5,6,7] (by kernel_rfl) (by kernel_rfl) (Below.refl _ _).drew ?_
     (refine Abs.step_load (v:=.agg #[.int .i64 0,.string nm,.int .i64 0,.int .i64 0,.int .i64 0,.slice none 0 0]) rfl rfl (by kernel_rfl) rfl (fun w0 hI=>?_) (fun K hK=>?_);(· have hf:=kp hI g6;exact CA rfl rfl hf _ rfl Tryz.underlying24 AY);(simp only [Act.put,lA1,lZ1,lS1];refine hK _ _ ?_;clear hK K))
     (refine Abs.step_pure rfl rfl (fun K hK=>⟨(.agg O),fun w0=>CN rfl #[(0,.int .i64 1),(1,.agg #[.int .i64 0,.string nm,.int .i64 0,.int .i64 0,.int .i64 0,.slice none 0 0])] (by simp [Act.eval]) (bO _),?_⟩);(simp only [Act.put,lA1,lZ1,lS1];refine hK _ _ ?_;clear hK K))
     (refine Abs.step_pure rfl rfl (fun K hK=>⟨(.agg Y),fun w0=>CN rfl #[(0,.int .i64 1),(1,.agg O)] (by simp [Act.eval]) (bY _),?_⟩);(simp only [Act.put,lA1,lZ1,lS1];refine hK _ _ ?_;clear hK K))
     (refine Abs.step_pure rfl rfl (fun K hK=>?_);go_simp;(try go_bits);(first|refine hK _ _ ?_|(simp only [↓IntWalk.iteOmega];go_simp;(try go_bits);refine hK _ _ ?_));clear hK K)
     (refine Abs.step_late (v:=?_) rfl rfl (fun w0 hI=>?_) (fun K hK=>?_);rotate_left;(· have z0:=(AB (F0 hI (g6) (by have:=Hq.out;omega))).1;go_simp;rfl);(simp only [Act.put,lA1,lZ1,lS1];refine hK _ _ ?_;clear hK K))
     (refine Abs.step_pure rfl rfl (fun K hK=>?_);go_simp;(try go_bits);(first|refine hK _ _ ?_|(simp only [↓IntWalk.iteOmega];go_simp;(try go_bits);refine hK _ _ ?_));clear hK K)
     (refine Abs.step_store (T:=fun w0=>setRow w0 w.heap.size Y) rfl rfl rfl (fun w0 hI hF hU=>?_) (fun w0 hI hU hJ=>js hJ rfl _) (fun K hK=>?_);(· simp only [Abs.T_setF,Abs.T_addA,Abs.T_push,Abs.T_start];exact BJ rfl rfl rfl (kp hI f6) (by rw [AE,hYs]) (by rw [hYs];rfl) hY1);(simp only [Act.put,lA1,lZ1,lS1];refine hK _ _ ?_;clear hK K))
     (refine Abs.step_pure rfl rfl (fun K hK=>?_);go_simp;(try go_bits);(first|refine hK _ _ ?_|(simp only [↓IntWalk.iteOmega];go_simp;(try go_bits);refine hK _ _ ?_));clear hK K)
     intro w0 hI hF hx1 hx2
     clear hx1 hx2 hF
     simp only [Abs.T_setF,Abs.T_addA,Abs.T_push,Abs.T_start]
     have fE:=kp hI f6
     have hBE:=AA (bB hBe.out hI)
     go_wp2_with fail
     exact BU rfl rfl fE hYs hBE.out HN2.out
theorem gQ (hd nm:ByteArray) (r:List ByteArray) (hh:hd=DI) (hno:∀j,1<=j->j<8->AW j≠hd) (hb:NoBare hd) (a6:(hd.toList== ([114,101,97,100]:List UInt8))=false) (a7:(hd.toList== ([98,117,99,107,101,116,115]:List UInt8))=false) (hn:nm.size<=40) (s:ByteArray) (hs:s.size<=1000000) (h:rW s.data.toList ⟨#[]⟩ []=some (hd::nm::r)) (hl:r.length<=1000000) (hz:∀x ∈ r,x.size<=1000000) (w:World) :
  Calls Tryz.prog 11 #[.string s] w (RPq (match AL r with|some xs=>BS hd nm xs|none=>none) w):=by
 have c0:=D8 s hs (w.alloc (.cells AD 48))
 rw [h] at c0
 obtain ⟨R,hR⟩:∃R:Option Cm,R=(match AL r with|some xs=>BS hd nm xs|none=>none):=⟨_,rfl⟩
 rw [<-hR]
 have HR:=AA hR
 clear hR h
 have HH:=AA hh
 clear hh
 have f1:=na w AD 48
 have hb1:=bA (b0 w) (.cells AD 48)
 obtain ⟨a1,a2,a3,a4,a5⟩:=hb
 go_enter Tryz.func11,Tryz.ntmps11
 go_wp2_with fail
 refine c0.mono ?_
 rintro e w2 ⟨v,rfl,hO,hb2⟩
 obtain ⟨A,c,rfl,hr⟩:=hO.cr
 have f2:=kp hb2 f1
 have HB:=AA (bB hb1 hb2)
 have hzc:=BF
 have h1:=C2
 have hcap:=hr.cap
 have hin:=hr.inV
 rw [BG] at hcap
 obtain ⟨ad,rfl,hal,hc⟩:=hr.inV (by simp [AC])
 have q0:=hc 0 (by simp [AC])
 have q1:=hc 1 (by simp [AC])
 simp only [AC,List.map_cons,List.getElem_cons_zero,List.getElem_cons_succ,CJ] at q0 q1
 have q1:w2.cell? ⟨ad.block,ad.off+1,none⟩=some (.string nm):=by simpa [Addr.add] using q1
 rw [BG]
 have hin2:=GQ (j:=2) hcap hin
 have e9:(hd::nm::r).drop 2=r:=rfl
 rw [e9] at hin2
 obtain ⟨A1,hA1⟩:∃A1,A1=some (if c-2=0 then ad else ad.add 2):=⟨_,rfl⟩
 obtain ⟨c1,hc1⟩:∃c1,c1=c-2:=⟨_,rfl⟩
 rw [<-hA1] at hin2
 have HA1:=AA hA1
 have HC1:=AA hc1
 clear hA1 hc1
 have e0:(hd::nm::r).length=r.length+2:=rfl
 rw [e0] at hcap ⊢
 have e2:decide ((r.length:Int)+2<2)=false:=decide_eq_false (by omega)
 have e3:decide ((40:Int)<(nm.size:Int))=false:=decide_eq_false (by omega)
 have cN:=GO A1 c1 r hl hz w2 hin2
 clear c0 hb1 hO hc hr hz e0 hin hin2
 go_wp2_with (refine GP rfl _ _ rfl ad (r.length+2) c 2 rfl rfl (by omega) hcap A1 r.length c1 HA1.out rfl HC1.out ?_;simp only [Act.put,lA1,lZ1,lS1])
 refine cN.mono ?_
 rintro e w3 hp3
 have hB:=HB.out
 cases hp:AL r with
 | none=>
  rw [hp] at hp3
  obtain ⟨rfl,hb3⟩:=hp3
  have f3:=kp hb3 f2
  have HB3:=AA (bB hB hb3)
  have HN:Hid (R=none):=AA (by rw [HR.out,hp])
  clear hp hB hb3 f2 cN q0 q1
  go_wp2_with (first|(refine BC rfl _ _ rfl (.agg AD) #[] (by simp [Act.eval]) (C3 _) ?_;simp only [Act.put,lA1,lZ1,lS1])|(refine AG rfl _ _ _ rfl w.heap.size 48 _ AD rfl rfl f3 (by rw [AE,hzc]) rfl h1 ?_;simp only [Act.put]))
  exact BU rfl rfl f3 BF HB3.out HN.out
 | some xs=>
  rw [hp] at hp3
  obtain ⟨v3,rfl,hO3,hb3⟩:=hp3
  have f3:=kp hb3 f2
  have HB3:=AA (bB hB hb3)
  obtain ⟨A3,c3,rfl,hr3⟩:=hO3.cr
  have HI3:=AA hr3.inV
  have HN:Hid (R=BS hd nm xs):=AA (by rw [HR.out,hp])
  rw [BL]
  clear hp hB hb3 f2 cN q0 q1 hO3 hr3 hal HR HB HA1 HC1 hcap a1 a2 a3 a4 a5 a6 a7 e2 e3
  have HN:Hid (R=drR nm xs):=AA (by rw [HN.out,HH.out];exact gN nm xs)
  have HNO:=AA hno
  clear hno
  go_wp2_with fail
  go_loopw [22] (fun v22 wr=>∃(k:Nat),v22=.int .i64 (k:Int)/\1<=k/\k<=8/\Hid (Below w3.heap.size w3 wr)) (fun v22 _=>9-(intOf v22).toNat)
  case atStart=>exact ⟨1,rfl,by omega,by omega,AA (b0 _)⟩
  case round=>
   obtain ⟨k,rfl,hk1,hkk,HBr⟩:=hrel
   rcases Nat.lt_or_ge k 8 with hlt|hge
   ·have e1:decide ((k:Int)<=7)=true:=decide_eq_true (by omega)
    have cW:=fun W=>GM k (by omega) W
    have hx:AW k≠hd:=HNO.out k hk1 hlt
    have ex:=eqF hx
    generalize AW k=K at *
    clear hx
    go_wp2_with fail
    refine (cW _).mono ?_
    rintro e w5 ⟨rfl,hb5⟩
    have HB5:=AA (bB HBr.out hb5)
    go_wp2_with fail
    go_roundw
    case rel=>exact ⟨k+1,by go_num,by omega,by omega,HB5⟩
    case measure=>simp [intOf];omega
   ·have e1:decide ((k:Int)<=7)=false:=decide_eq_false (by omega)
    obtain ⟨w5,hw5⟩:∃w5,w5=wr:=⟨_,rfl⟩
    rw [<-hw5] at HBr ⊢
    clear hw5
    have fB:=kp HBr.out f3
    obtain ⟨q,hq⟩:∃q,q=w5.heap.size:=⟨_,rfl⟩
    have hqw:w.heap.size<q:=by rw [hq];exact (AB fB).2.2
    have Hq:=AA hq
    have hBw:=AA (bB HB3.out HBr.out)
    have HI5:=AA (HI3.out.below HBr.out)
    clear HNO HBr f3 HI3 hq
    have bc:(hd.toList== ([99,114,101,97,116,101]:List UInt8))=false:=BQ _ (by rw [HH.out];decide)
    have bd:(hd.toList== ([100,114,111,112]:List UInt8))=true:=FE _ (by rw [HH.out];rfl)
    have ba:(hd.toList== ([97,112,112,101,110,100]:List UInt8))=false:=BQ _ (by rw [HH.out];decide)
    have br:(hd.toList== ([114,101,116,97,105,110]:List UInt8))=false:=BQ _ (by rw [HH.out];decide)
    clear HH
    by_cases hx:xs.length=0
    ·match xs,hx with
     | [],_=>
      have HN2:Hid (R=some { ok:=1,mkd:=2,mn:=nm }):=AA (HN.out.trans rfl)
      simp only [List.length_cons,List.length_nil]
      clear HI5 HN
      go_wp2_with (first
       | (refine AG rfl _ _ _ rfl w5.heap.size 24 _ #[.int .i64 0,.string nm,.int .i64 0,.int .i64 0,.int .i64 0,.slice none 0 0] rfl rfl (na _ _ _) AY rfl (by simp [Value.oneCell']) ?_;simp only [Act.put];generalize hT6:setRow _ _ _=w6;obtain ⟨hx6,g6⟩:=AK (b0 _) (na w5 _ 24) hT6;have f6:=kx hx6 (kp (bA (b0 _) _) fB) (by have:=Hq.out;omega);have HB6:=AA (bX (bA (b0 w5) _) hx6 (Nat.le_refl _));rw [<-Hq.out] at g6 ⊢;clear hT6 hx6)
       | (refine FF rfl 3 _ _ rfl q 0 24 _ .i64 2 rfl rfl g6 (by simp) (fun w=>Tryz.sizeOf3 w) ?_;generalize hT7:setRow _ _ _=w7;obtain ⟨hx7,g7⟩:=AK (b0 _) g6 hT7;simp only [lA1,lZ1,lS1] at g7;have f7:=kx hx7 f6 (by omega);have HB7:=AA (bX HB6.out hx7 (by have:=Hq.out;omega));clear hT7 hx7))
      have bO:=FZ (2) nm (0) (0) (0) none (0) (0)
      obtain ⟨O,hO⟩:∃O,O=OpV.cs ⟨1,2,nm,0,0,0,none,0,0,0,⟨#[]⟩,0,0,0,0,⟨#[]⟩,0,0⟩:=⟨_,rfl⟩
      obtain ⟨Y,hY⟩:∃Y,Y=AI 1 ⟨1,2,nm,0,0,0,none,0,0,0,⟨#[]⟩,0,0,0,0,⟨#[]⟩,0,0⟩ 0 none 0 0:=⟨_,rfl⟩
      have bY:=D9 ⟨1,2,nm,0,0,0,none,0,0,0,⟨#[]⟩,0,0,0,0,⟨#[]⟩,0,0⟩
      have hYs:Y.size=19:=by rw [hY];rfl
      have hY1:Y.all (·.oneCell')=true:=by rw [hY];exact BB _ _ _ _ _ _
      have HC:=AA (show ∀W,BI w.heap.size W (.agg Y) { ok:=1,mkd:=2,mn:=nm } from by rw [hY];exact fun W=>⟨none,0,none,0,rfl,RS.nil _,RS.nil _⟩)
      rw [<-hO] at bO bY
      rw [<-hY] at bY
      clear hO hY
      have hBe:=AA (bB hBw.out HB7.out)
      refine Abs.wp_region_abs (Abs.cls _ (fun k=>k=w.heap.size)) [0,1,2,3,4,5,6,7] (by kernel_rfl) (by kernel_rfl) (Below.refl _ _).drew ?_
      (refine Abs.step_load (v:=.agg #[.int .i64 2,.string nm,.int .i64 0,.int .i64 0,.int .i64 0,.slice none 0 0]) rfl rfl (by kernel_rfl) rfl (fun w0 hI=>?_) (fun K hK=>?_);(· have hf:=kp hI g7;exact CA rfl rfl hf _ rfl Tryz.underlying24 AY);(simp only [Act.put,lA1,lZ1,lS1];refine hK _ _ ?_;clear hK K))
      (refine Abs.step_pure rfl rfl (fun K hK=>⟨(.agg O),fun w0=>CN rfl #[(0,.int .i64 1),(1,.agg #[.int .i64 2,.string nm,.int .i64 0,.int .i64 0,.int .i64 0,.slice none 0 0])] (by simp [Act.eval]) (bO _),?_⟩);(simp only [Act.put,lA1,lZ1,lS1];refine hK _ _ ?_;clear hK K))
      (refine Abs.step_pure rfl rfl (fun K hK=>⟨(.agg Y),fun w0=>CN rfl #[(0,.int .i64 1),(1,.agg O)] (by simp [Act.eval]) (bY _),?_⟩);(simp only [Act.put,lA1,lZ1,lS1];refine hK _ _ ?_;clear hK K))
      (refine Abs.step_pure rfl rfl (fun K hK=>?_);go_simp;(try go_bits);(first|refine hK _ _ ?_|(simp only [↓IntWalk.iteOmega];go_simp;(try go_bits);refine hK _ _ ?_));clear hK K)
      (refine Abs.step_late (v:=?_) rfl rfl (fun w0 hI=>?_) (fun K hK=>?_);rotate_left;(· have z0:=(AB (F0 hI (g7) (by have:=Hq.out;omega))).1;go_simp;rfl);(simp only [Act.put,lA1,lZ1,lS1];refine hK _ _ ?_;clear hK K))
      (refine Abs.step_pure rfl rfl (fun K hK=>?_);go_simp;(try go_bits);(first|refine hK _ _ ?_|(simp only [↓IntWalk.iteOmega];go_simp;(try go_bits);refine hK _ _ ?_));clear hK K)
      (refine Abs.step_store (T:=fun w0=>setRow w0 w.heap.size Y) rfl rfl rfl (fun w0 hI hF hU=>?_) (fun w0 hI hU hJ=>js hJ rfl _) (fun K hK=>?_);(· simp only [Abs.T_setF,Abs.T_addA,Abs.T_push,Abs.T_start];exact BJ rfl rfl rfl (kp hI f7) (by rw [AE,hYs]) (by rw [hYs];rfl) hY1);(simp only [Act.put,lA1,lZ1,lS1];refine hK _ _ ?_;clear hK K))
      (refine Abs.step_pure rfl rfl (fun K hK=>?_);go_simp;(try go_bits);(first|refine hK _ _ ?_|(simp only [↓IntWalk.iteOmega];go_simp;(try go_bits);refine hK _ _ ?_));clear hK K)
      intro w0 hI hF hx1 hx2
      clear hx1 hx2 hF
      simp only [Abs.T_setF,Abs.T_addA,Abs.T_push,Abs.T_start]
      have fE:=kp hI f7
      have hBE:=AA (bB hBe.out hI)
      go_wp2_with fail
      exact EQ rfl rfl fE hYs hBE.out (HC.out _) HN2.out
    ·have HN2:Hid (R=none):=AA (by
      rw [HN.out]
      match xs,hx with
      | _::_,_=>rfl)
     have e5:((xs.length:Int)== 0)=false:=beq_eq_false_iff_ne.2 (by omega)
     have e7:decide ((xs.length:Int)=0)=false:=decide_eq_false (by omega)
     clear HN HI5
     go_wp2_with (first
      | (refine AG rfl _ _ _ rfl w5.heap.size 24 _ #[.int .i64 0,.string nm,.int .i64 0,.int .i64 0,.int .i64 0,.slice none 0 0] rfl rfl (na _ _ _) AY rfl (by simp [Value.oneCell']) ?_;simp only [Act.put];generalize hT6:setRow _ _ _=w6;obtain ⟨hx6,g6⟩:=AK (b0 _) (na w5 _ 24) hT6;have f6:=kx hx6 (kp (bA (b0 _) _) fB) (by have:=Hq.out;omega);have HB6:=AA (bX (bA (b0 w5) _) hx6 (Nat.le_refl _));rw [<-Hq.out] at g6 ⊢;clear hT6 hx6))
     have bO:=FZ (0) nm (0) (0) (0) none (0) (0)
     obtain ⟨O,hO⟩:∃O,O=OpV.cs ⟨1,0,nm,0,0,0,none,0,0,0,⟨#[]⟩,0,0,0,0,⟨#[]⟩,0,0⟩:=⟨_,rfl⟩
     obtain ⟨Y,hY⟩:∃Y,Y=AI 1 ⟨1,0,nm,0,0,0,none,0,0,0,⟨#[]⟩,0,0,0,0,⟨#[]⟩,0,0⟩ 0 none 0 0:=⟨_,rfl⟩
     have bY:=D9 ⟨1,0,nm,0,0,0,none,0,0,0,⟨#[]⟩,0,0,0,0,⟨#[]⟩,0,0⟩
     have hYs:Y.size=19:=by rw [hY];rfl
     have hY1:Y.all (·.oneCell')=true:=by rw [hY];exact BB _ _ _ _ _ _
     rw [<-hO] at bO bY
     rw [<-hY] at bY
     clear hO hY
     have hBe:=AA (bB hBw.out HB6.out)
     refine Abs.wp_region_abs (Abs.cls _ (fun k=>k=w.heap.size)) [0,1,2,3,4,5,6,7] (by kernel_rfl) (by kernel_rfl) (Below.refl _ _).drew ?_
     (refine Abs.step_load (v:=.agg #[.int .i64 0,.string nm,.int .i64 0,.int .i64 0,.int .i64 0,.slice none 0 0]) rfl rfl (by kernel_rfl) rfl (fun w0 hI=>?_) (fun K hK=>?_);(· have hf:=kp hI g6;exact CA rfl rfl hf _ rfl Tryz.underlying24 AY);(simp only [Act.put,lA1,lZ1,lS1];refine hK _ _ ?_;clear hK K))
     (refine Abs.step_pure rfl rfl (fun K hK=>⟨(.agg O),fun w0=>CN rfl #[(0,.int .i64 1),(1,.agg #[.int .i64 0,.string nm,.int .i64 0,.int .i64 0,.int .i64 0,.slice none 0 0])] (by simp [Act.eval]) (bO _),?_⟩);(simp only [Act.put,lA1,lZ1,lS1];refine hK _ _ ?_;clear hK K))
     (refine Abs.step_pure rfl rfl (fun K hK=>⟨(.agg Y),fun w0=>CN rfl #[(0,.int .i64 1),(1,.agg O)] (by simp [Act.eval]) (bY _),?_⟩);(simp only [Act.put,lA1,lZ1,lS1];refine hK _ _ ?_;clear hK K))
     (refine Abs.step_pure rfl rfl (fun K hK=>?_);go_simp;(try go_bits);(first|refine hK _ _ ?_|(simp only [↓IntWalk.iteOmega];go_simp;(try go_bits);refine hK _ _ ?_));clear hK K)
     (refine Abs.step_late (v:=?_) rfl rfl (fun w0 hI=>?_) (fun K hK=>?_);rotate_left;(· have z0:=(AB (F0 hI (g6) (by have:=Hq.out;omega))).1;go_simp;rfl);(simp only [Act.put,lA1,lZ1,lS1];refine hK _ _ ?_;clear hK K))
     (refine Abs.step_pure rfl rfl (fun K hK=>?_);go_simp;(try go_bits);(first|refine hK _ _ ?_|(simp only [↓IntWalk.iteOmega];go_simp;(try go_bits);refine hK _ _ ?_));clear hK K)
     (refine Abs.step_store (T:=fun w0=>setRow w0 w.heap.size Y) rfl rfl rfl (fun w0 hI hF hU=>?_) (fun w0 hI hU hJ=>js hJ rfl _) (fun K hK=>?_);(· simp only [Abs.T_setF,Abs.T_addA,Abs.T_push,Abs.T_start];exact BJ rfl rfl rfl (kp hI f6) (by rw [AE,hYs]) (by rw [hYs];rfl) hY1);(simp only [Act.put,lA1,lZ1,lS1];refine hK _ _ ?_;clear hK K))
     (refine Abs.step_pure rfl rfl (fun K hK=>?_);go_simp;(try go_bits);(first|refine hK _ _ ?_|(simp only [↓IntWalk.iteOmega];go_simp;(try go_bits);refine hK _ _ ?_));clear hK K)
     intro w0 hI hF hx1 hx2
     clear hx1 hx2 hF
     simp only [Abs.T_setF,Abs.T_addA,Abs.T_push,Abs.T_start]
     have fE:=kp hI f6
     have hBE:=AA (bB hBe.out hI)
     go_wp2_with fail
     exact BU rfl rfl fE hYs hBE.out HN2.out
theorem gR (hd nm:ByteArray) (r:List ByteArray) (hh:hd=DP) (hno:∀j,1<=j->j<8->AW j≠hd) (hb:NoBare hd) (a6:(hd.toList== ([114,101,97,100]:List UInt8))=false) (a7:(hd.toList== ([98,117,99,107,101,116,115]:List UInt8))=false) (hn:nm.size<=40) (s:ByteArray) (hs:s.size<=1000000) (h:rW s.data.toList ⟨#[]⟩ []=some (hd::nm::r)) (hl:r.length<=1000000) (hz:∀x ∈ r,x.size<=1000000) (w:World) :
  Calls Tryz.prog 11 #[.string s] w (RPq (match AL r with|some xs=>BS hd nm xs|none=>none) w):=by
 have c0:=D8 s hs (w.alloc (.cells AD 48))
 rw [h] at c0
 obtain ⟨R,hR⟩:∃R:Option Cm,R=(match AL r with|some xs=>BS hd nm xs|none=>none):=⟨_,rfl⟩
 rw [<-hR]
 have HR:=AA hR
 clear hR h
 have HH:=AA hh
 clear hh
 have f1:=na w AD 48
 have hb1:=bA (b0 w) (.cells AD 48)
 obtain ⟨a1,a2,a3,a4,a5⟩:=hb
 go_enter Tryz.func11,Tryz.ntmps11
 go_wp2_with fail
 refine c0.mono ?_
 rintro e w2 ⟨v,rfl,hO,hb2⟩
 obtain ⟨A,c,rfl,hr⟩:=hO.cr
 have f2:=kp hb2 f1
 have HB:=AA (bB hb1 hb2)
 have hzc:=BF
 have h1:=C2
 have hcap:=hr.cap
 have hin:=hr.inV
 rw [BG] at hcap
 obtain ⟨ad,rfl,hal,hc⟩:=hr.inV (by simp [AC])
 have q0:=hc 0 (by simp [AC])
 have q1:=hc 1 (by simp [AC])
 simp only [AC,List.map_cons,List.getElem_cons_zero,List.getElem_cons_succ,CJ] at q0 q1
 have q1:w2.cell? ⟨ad.block,ad.off+1,none⟩=some (.string nm):=by simpa [Addr.add] using q1
 rw [BG]
 have hin2:=GQ (j:=2) hcap hin
 have e9:(hd::nm::r).drop 2=r:=rfl
 rw [e9] at hin2
 obtain ⟨A1,hA1⟩:∃A1,A1=some (if c-2=0 then ad else ad.add 2):=⟨_,rfl⟩
 obtain ⟨c1,hc1⟩:∃c1,c1=c-2:=⟨_,rfl⟩
 rw [<-hA1] at hin2
 have HA1:=AA hA1
 have HC1:=AA hc1
 clear hA1 hc1
 have e0:(hd::nm::r).length=r.length+2:=rfl
 rw [e0] at hcap ⊢
 have e2:decide ((r.length:Int)+2<2)=false:=decide_eq_false (by omega)
 have e3:decide ((40:Int)<(nm.size:Int))=false:=decide_eq_false (by omega)
 have cN:=GO A1 c1 r hl hz w2 hin2
 clear c0 hb1 hO hc hr hz e0 hin hin2
 go_wp2_with (refine GP rfl _ _ rfl ad (r.length+2) c 2 rfl rfl (by omega) hcap A1 r.length c1 HA1.out rfl HC1.out ?_;simp only [Act.put,lA1,lZ1,lS1])
 refine cN.mono ?_
 rintro e w3 hp3
 have hB:=HB.out
 cases hp:AL r with
 | none=>
  rw [hp] at hp3
  obtain ⟨rfl,hb3⟩:=hp3
  have f3:=kp hb3 f2
  have HB3:=AA (bB hB hb3)
  have HN:Hid (R=none):=AA (by rw [HR.out,hp])
  clear hp hB hb3 f2 cN q0 q1
  go_wp2_with (first|(refine BC rfl _ _ rfl (.agg AD) #[] (by simp [Act.eval]) (C3 _) ?_;simp only [Act.put,lA1,lZ1,lS1])|(refine AG rfl _ _ _ rfl w.heap.size 48 _ AD rfl rfl f3 (by rw [AE,hzc]) rfl h1 ?_;simp only [Act.put]))
  exact BU rfl rfl f3 BF HB3.out HN.out
 | some xs=>
  rw [hp] at hp3
  obtain ⟨v3,rfl,hO3,hb3⟩:=hp3
  have f3:=kp hb3 f2
  have HB3:=AA (bB hB hb3)
  obtain ⟨A3,c3,rfl,hr3⟩:=hO3.cr
  have HI3:=AA hr3.inV
  have HN:Hid (R=BS hd nm xs):=AA (by rw [HR.out,hp])
  rw [BL]
  clear hp hB hb3 f2 cN q0 q1 hO3 hr3 hal HR HB HA1 HC1 hcap a1 a2 a3 a4 a5 a6 a7 e2 e3
  have HN:Hid (R=rtR nm xs):=AA (by rw [HN.out,HH.out];exact gO nm xs)
  have HNO:=AA hno
  clear hno
  go_wp2_with fail
  go_loopw [22] (fun v22 wr=>∃(k:Nat),v22=.int .i64 (k:Int)/\1<=k/\k<=8/\Hid (Below w3.heap.size w3 wr)) (fun v22 _=>9-(intOf v22).toNat)
  case atStart=>exact ⟨1,rfl,by omega,by omega,AA (b0 _)⟩
  case round=>
   obtain ⟨k,rfl,hk1,hkk,HBr⟩:=hrel
   rcases Nat.lt_or_ge k 8 with hlt|hge
   ·have e1:decide ((k:Int)<=7)=true:=decide_eq_true (by omega)
    have cW:=fun W=>GM k (by omega) W
    have hx:AW k≠hd:=HNO.out k hk1 hlt
    have ex:=eqF hx
    generalize AW k=K at *
    clear hx
    go_wp2_with fail
    refine (cW _).mono ?_
    rintro e w5 ⟨rfl,hb5⟩
    have HB5:=AA (bB HBr.out hb5)
    go_wp2_with fail
    go_roundw
    case rel=>exact ⟨k+1,by go_num,by omega,by omega,HB5⟩
    case measure=>simp [intOf];omega
   ·have e1:decide ((k:Int)<=7)=false:=decide_eq_false (by omega)
    obtain ⟨w5,hw5⟩:∃w5,w5=wr:=⟨_,rfl⟩
    rw [<-hw5] at HBr ⊢
    clear hw5
    have fB:=kp HBr.out f3
    obtain ⟨q,hq⟩:∃q,q=w5.heap.size:=⟨_,rfl⟩
    have hqw:w.heap.size<q:=by rw [hq];exact (AB fB).2.2
    have Hq:=AA hq
    have hBw:=AA (bB HB3.out HBr.out)
    have HI5:=AA (HI3.out.below HBr.out)
    clear HNO HBr f3 HI3 hq
    have bc:(hd.toList== ([99,114,101,97,116,101]:List UInt8))=false:=BQ _ (by rw [HH.out];decide)
    have bd:(hd.toList== ([100,114,111,112]:List UInt8))=false:=BQ _ (by rw [HH.out];decide)
    have ba:(hd.toList== ([97,112,112,101,110,100]:List UInt8))=false:=BQ _ (by rw [HH.out];decide)
    have br:(hd.toList== ([114,101,116,97,105,110]:List UInt8))=true:=FE _ (by rw [HH.out];rfl)
    clear HH
    by_cases hx:xs.length=1
    ·match xs,hx with
     | [a],_=>
      have HN2:Hid (R=some { ok:=1,mkd:=4,mn:=nm,mf:=a }):=AA (HN.out.trans rfl)
      obtain ⟨ad3,rfl,hal3,hc3⟩:=HI5.out (by simp [AH])
      have p0:=hc3 0 (by simp [AH])
      simp only [AH,List.map_cons,List.getElem_cons_zero,List.getElem_cons_succ,CJ] at p0
      simp only [List.length_cons,List.length_nil]
      clear hc3 HI5 HN
      go_wp2_with (first
       | (refine AG rfl _ _ _ rfl w5.heap.size 24 _ #[.int .i64 0,.string nm,.int .i64 0,.int .i64 0,.int .i64 0,.slice none 0 0] rfl rfl (na _ _ _) AY rfl (by simp [Value.oneCell']) ?_;simp only [Act.put];generalize hT6:setRow _ _ _=w6;obtain ⟨hx6,g6⟩:=AK (b0 _) (na w5 _ 24) hT6;have f6:=kx hx6 (kp (bA (b0 _) _) fB) (by have:=Hq.out;omega);have HB6:=AA (bX (bA (b0 w5) _) hx6 (Nat.le_refl _));rw [<-Hq.out] at g6 ⊢;clear hT6 hx6)
       | (refine FF rfl 3 _ _ rfl q 0 24 _ .i64 4 rfl rfl g6 (by simp) (fun w=>Tryz.sizeOf3 w) ?_;generalize hT7:setRow _ _ _=w7;obtain ⟨hx7,g7⟩:=AK (b0 _) g6 hT7;simp only [lA1,lZ1,lS1] at g7;have f7:=kx hx7 f6 (by omega);have HB7:=AA (bX HB6.out hx7 (by have:=Hq.out;omega));have p0_7:=(HB7.out.cell (p:=ad3) hal3).trans p0;clear hT7 hx7)
       | (refine FF rfl 2 _ _ rfl q 3 24 _ .i64 a rfl rfl g7 (by simp) (fun w=>Tryz.sizeOf2 w) ?_;generalize hT8:setRow _ _ _=w8;obtain ⟨hx8,g8⟩:=AK (b0 _) g7 hT8;simp only [lA1,lZ1,lS1] at g8;have f8:=kx hx8 f7 (by omega);have HB8:=AA (bX HB7.out hx8 (by have:=Hq.out;omega));clear hT8 hx8))
      have bO:=FZ (4) nm (0) (a) (0) none (0) (0)
      obtain ⟨O,hO⟩:∃O,O=OpV.cs ⟨1,4,nm,0,a,0,none,0,0,0,⟨#[]⟩,0,0,0,0,⟨#[]⟩,0,0⟩:=⟨_,rfl⟩
      obtain ⟨Y,hY⟩:∃Y,Y=AI 1 ⟨1,4,nm,0,a,0,none,0,0,0,⟨#[]⟩,0,0,0,0,⟨#[]⟩,0,0⟩ 0 none 0 0:=⟨_,rfl⟩
      have bY:=D9 ⟨1,4,nm,0,a,0,none,0,0,0,⟨#[]⟩,0,0,0,0,⟨#[]⟩,0,0⟩
      have hYs:Y.size=19:=by rw [hY];rfl
      have hY1:Y.all (·.oneCell')=true:=by rw [hY];exact BB _ _ _ _ _ _
      have HC:=AA (show ∀W,BI w.heap.size W (.agg Y) { ok:=1,mkd:=4,mn:=nm,mf:=a } from by rw [hY];exact fun W=>⟨none,0,none,0,rfl,RS.nil _,RS.nil _⟩)
      rw [<-hO] at bO bY
      rw [<-hY] at bY
      clear hO hY
      have hBe:=AA (bB hBw.out HB8.out)
      refine Abs.wp_region_abs (Abs.cls _ (fun k=>k=w.heap.size)) [0,1,2,3,4,5,6,7] (by kernel_rfl) (by kernel_rfl) (Below.refl _ _).drew ?_
      (refine Abs.step_load (v:=.agg #[.int .i64 4,.string nm,.int .i64 0,.int .i64 a,.int .i64 0,.slice none 0 0]) rfl rfl (by kernel_rfl) rfl (fun w0 hI=>?_) (fun K hK=>?_);(· have hf:=kp hI g8;exact CA rfl rfl hf _ rfl Tryz.underlying24 AY);(simp only [Act.put,lA1,lZ1,lS1];refine hK _ _ ?_;clear hK K))
      (refine Abs.step_pure rfl rfl (fun K hK=>⟨(.agg O),fun w0=>CN rfl #[(0,.int .i64 1),(1,.agg #[.int .i64 4,.string nm,.int .i64 0,.int .i64 a,.int .i64 0,.slice none 0 0])] (by simp [Act.eval]) (bO _),?_⟩);(simp only [Act.put,lA1,lZ1,lS1];refine hK _ _ ?_;clear hK K))
      (refine Abs.step_pure rfl rfl (fun K hK=>⟨(.agg Y),fun w0=>CN rfl #[(0,.int .i64 1),(1,.agg O)] (by simp [Act.eval]) (bY _),?_⟩);(simp only [Act.put,lA1,lZ1,lS1];refine hK _ _ ?_;clear hK K))
      (refine Abs.step_pure rfl rfl (fun K hK=>?_);go_simp;(try go_bits);(first|refine hK _ _ ?_|(simp only [↓IntWalk.iteOmega];go_simp;(try go_bits);refine hK _ _ ?_));clear hK K)
      (refine Abs.step_late (v:=?_) rfl rfl (fun w0 hI=>?_) (fun K hK=>?_);rotate_left;(· have z0:=(AB (F0 hI (g8) (by have:=Hq.out;omega))).1;go_simp;rfl);(simp only [Act.put,lA1,lZ1,lS1];refine hK _ _ ?_;clear hK K))
      (refine Abs.step_pure rfl rfl (fun K hK=>?_);go_simp;(try go_bits);(first|refine hK _ _ ?_|(simp only [↓IntWalk.iteOmega];go_simp;(try go_bits);refine hK _ _ ?_));clear hK K)
      (refine Abs.step_store (T:=fun w0=>setRow w0 w.heap.size Y) rfl rfl rfl (fun w0 hI hF hU=>?_) (fun w0 hI hU hJ=>js hJ rfl _) (fun K hK=>?_);(· simp only [Abs.T_setF,Abs.T_addA,Abs.T_push,Abs.T_start];exact BJ rfl rfl rfl (kp hI f8) (by rw [AE,hYs]) (by rw [hYs];rfl) hY1);(simp only [Act.put,lA1,lZ1,lS1];refine hK _ _ ?_;clear hK K))
      (refine Abs.step_pure rfl rfl (fun K hK=>?_);go_simp;(try go_bits);(first|refine hK _ _ ?_|(simp only [↓IntWalk.iteOmega];go_simp;(try go_bits);refine hK _ _ ?_));clear hK K)
      intro w0 hI hF hx1 hx2
      clear hx1 hx2 hF
      simp only [Abs.T_setF,Abs.T_addA,Abs.T_push,Abs.T_start]
      have fE:=kp hI f8
      have hBE:=AA (bB hBe.out hI)
      go_wp2_with fail
      exact EQ rfl rfl fE hYs hBE.out (HC.out _) HN2.out
    ·have HN2:Hid (R=none):=AA (by
      rw [HN.out]
      match xs,hx with
      | [],_=>rfl
      | _::_::_,_=>rfl)
     have e5:((xs.length:Int)== 1)=false:=beq_eq_false_iff_ne.2 (by omega)
     have e7:decide ((xs.length:Int)=1)=false:=decide_eq_false (by omega)
     clear HN HI5
     go_wp2_with (first
      | (refine AG rfl _ _ _ rfl w5.heap.size 24 _ #[.int .i64 0,.string nm,.int .i64 0,.int .i64 0,.int .i64 0,.slice none 0 0] rfl rfl (na _ _ _) AY rfl (by simp [Value.oneCell']) ?_;simp only [Act.put];generalize hT6:setRow _ _ _=w6;obtain ⟨hx6,g6⟩:=AK (b0 _) (na w5 _ 24) hT6;have f6:=kx hx6 (kp (bA (b0 _) _) fB) (by have:=Hq.out;omega);have HB6:=AA (bX (bA (b0 w5) _) hx6 (Nat.le_refl _));rw [<-Hq.out] at g6 ⊢;clear hT6 hx6))
     have bO:=FZ (0) nm (0) (0) (0) none (0) (0)
     obtain ⟨O,hO⟩:∃O,O=OpV.cs ⟨1,0,nm,0,0,0,none,0,0,0,⟨#[]⟩,0,0,0,0,⟨#[]⟩,0,0⟩:=⟨_,rfl⟩
     obtain ⟨Y,hY⟩:∃Y,Y=AI 1 ⟨1,0,nm,0,0,0,none,0,0,0,⟨#[]⟩,0,0,0,0,⟨#[]⟩,0,0⟩ 0 none 0 0:=⟨_,rfl⟩
     have bY:=D9 ⟨1,0,nm,0,0,0,none,0,0,0,⟨#[]⟩,0,0,0,0,⟨#[]⟩,0,0⟩
     have hYs:Y.size=19:=by rw [hY];rfl
     have hY1:Y.all (·.oneCell')=true:=by rw [hY];exact BB _ _ _ _ _ _
     rw [<-hO] at bO bY
     rw [<-hY] at bY
     clear hO hY
     have hBe:=AA (bB hBw.out HB6.out)
     refine Abs.wp_region_abs (Abs.cls _ (fun k=>k=w.heap.size)) [0,1,2,3,4,5,6,7] (by kernel_rfl) (by kernel_rfl) (Below.refl _ _).drew ?_
     (refine Abs.step_load (v:=.agg #[.int .i64 0,.string nm,.int .i64 0,.int .i64 0,.int .i64 0,.slice none 0 0]) rfl rfl (by kernel_rfl) rfl (fun w0 hI=>?_) (fun K hK=>?_);(· have hf:=kp hI g6;exact CA rfl rfl hf _ rfl Tryz.underlying24 AY);(simp only [Act.put,lA1,lZ1,lS1];refine hK _ _ ?_;clear hK K))
     (refine Abs.step_pure rfl rfl (fun K hK=>⟨(.agg O),fun w0=>CN rfl #[(0,.int .i64 1),(1,.agg #[.int .i64 0,.string nm,.int .i64 0,.int .i64 0,.int .i64 0,.slice none 0 0])] (by simp [Act.eval]) (bO _),?_⟩);(simp only [Act.put,lA1,lZ1,lS1];refine hK _ _ ?_;clear hK K))
     (refine Abs.step_pure rfl rfl (fun K hK=>⟨(.agg Y),fun w0=>CN rfl #[(0,.int .i64 1),(1,.agg O)] (by simp [Act.eval]) (bY _),?_⟩);(simp only [Act.put,lA1,lZ1,lS1];refine hK _ _ ?_;clear hK K))
     (refine Abs.step_pure rfl rfl (fun K hK=>?_);go_simp;(try go_bits);(first|refine hK _ _ ?_|(simp only [↓IntWalk.iteOmega];go_simp;(try go_bits);refine hK _ _ ?_));clear hK K)
     (refine Abs.step_late (v:=?_) rfl rfl (fun w0 hI=>?_) (fun K hK=>?_);rotate_left;(· have z0:=(AB (F0 hI (g6) (by have:=Hq.out;omega))).1;go_simp;rfl);(simp only [Act.put,lA1,lZ1,lS1];refine hK _ _ ?_;clear hK K))
     (refine Abs.step_pure rfl rfl (fun K hK=>?_);go_simp;(try go_bits);(first|refine hK _ _ ?_|(simp only [↓IntWalk.iteOmega];go_simp;(try go_bits);refine hK _ _ ?_));clear hK K)
     (refine Abs.step_store (T:=fun w0=>setRow w0 w.heap.size Y) rfl rfl rfl (fun w0 hI hF hU=>?_) (fun w0 hI hU hJ=>js hJ rfl _) (fun K hK=>?_);(· simp only [Abs.T_setF,Abs.T_addA,Abs.T_push,Abs.T_start];exact BJ rfl rfl rfl (kp hI f6) (by rw [AE,hYs]) (by rw [hYs];rfl) hY1);(simp only [Act.put,lA1,lZ1,lS1];refine hK _ _ ?_;clear hK K))
     (refine Abs.step_pure rfl rfl (fun K hK=>?_);go_simp;(try go_bits);(first|refine hK _ _ ?_|(simp only [↓IntWalk.iteOmega];go_simp;(try go_bits);refine hK _ _ ?_));clear hK K)
     intro w0 hI hF hx1 hx2
     clear hx1 hx2 hF
     simp only [Abs.T_setF,Abs.T_addA,Abs.T_push,Abs.T_start]
     have fE:=kp hI f6
     have hBE:=AA (bB hBe.out hI)
     go_wp2_with fail
     exact BU rfl rfl fE hYs hBE.out HN2.out
end Go.Proofs.YtlnonecibpjcoaaGreatDoor
