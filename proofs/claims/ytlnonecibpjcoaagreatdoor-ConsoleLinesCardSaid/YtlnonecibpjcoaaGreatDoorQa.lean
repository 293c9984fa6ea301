/- The console's la. -/
import Derived.Test.YtlnonecibpjcoaaGreatDoorPy
import Derived.Test.YtlnonecibpjcoaaGreatDoorPa
set_option linter.all false
set_option maxRecDepth 100000
set_option maxHeartbeats 40000000
namespace Go.Proofs.YtlnonecibpjcoaaGreatDoor
open Go.RowKit
attribute [local go_sem] Oper.semAt_some
theorem add_zero (a:Addr):a.add 0=a:=by unfold Addr.add;rw [if_pos rfl]
theorem rT (t e sz:Nat) (hu:Tryz.prog.underlying t=some (.slice e)) (w:World) (hs:(sizeOf e).run Tryz.prog w=.ok sz w) (A:Option Addr) (n m c:Nat) (hm:m<=c) :
  (Instr.sliceAt t (.slice A n c) none (some (.int .i64 (m:Int))) none).run Tryz.prog w=.ok (.slice A m c) w:=by
 have h1:(Instr.sliceBound (.int .i64 (m:Int)) c .sliceAcap).run Tryz.prog w=.ok m w:=by
  simp [Instr.sliceBound,asIntOf,hm]
 by_cases hc:c=0
 ·subst hc
  simp [Instr.sliceAt,Instr.slice,Instr.sliceBounds,run_underlying hu,h1,hs]
 ·simp [Instr.sliceAt,Instr.slice,Instr.sliceBounds,run_underlying hu,h1,hs,hc,add_zero]
theorem XR {ops:Array Oper} {rest:List Oper} {o:Oper} {a:Act} {w:World} {Q:Exit->Act->World->Prop} (hgd:o.guard=none) (t e sz:Nat) (hu:Tryz.prog.underlying t=some (.slice e)) (hs:∀w,(sizeOf e).run Tryz.prog w=.ok sz w)
  (x y:Operand) (ho:o.op=.slice t x none (some y) none) (A:Option Addr) (n m c:Nat) (hx:a.eval x=.slice A n c) (hy:a.eval y=.int .i64 (m:Int)) (hm:m<=c)
  (h:wpList Tryz.prog ops Q rest (a.put o.dst (.slice A m c)) w):wpList Tryz.prog ops Q (o::rest) a w:=by
 refine wpList_plain hgd fun _ hK=>?_
 unfold Oper.wp execOp
 simp only [ho,hx,Option.map,hy,Sem.run_bind,Sem.run_pure,Result.andThen_ok,rT t e sz hu w (hs w) A n m c hm]
 exact hK _ _ h
def CmK (w:World) (v:Value) (c:Cm):Prop:=∃A ac M mc,v=.agg (c.cs A ac M mc)/\RK 99 2 w A c.pts.length ac (AU c.pts)/\RK 3 1 w M c.masks.length mc (AH c.masks)
theorem CmK.below {w w':World} {v:Value} {c:Cm} (h:CmK w v c) (hb:Below w.heap.size w w'):CmK w' v c:=by
 obtain ⟨A,ac,M,mc,h1,h2,h3⟩:=h
 exact ⟨A,ac,M,mc,h1,h2.below hb,h3.below hb⟩
theorem BI.k {B:Nat} {w:World} {v:Value} {c:Cm} (h:BI B w v c):CmK w v c:=by
 obtain ⟨A,ac,M,mc,h1,h2,h3⟩:=h
 exact ⟨A,ac,M,mc,h1,h2.rk,h3.rk⟩
def M0 (c:Cm):Cm:={ c with masks:=c.masks.take 310,pts:=c.pts.take 40 }
theorem rU (l:List (Int×Int)):∀v ∈ AU l,v.oneCell'=true:=by
 induction l with
 | nil=>intro v hv;cases hv
 | cons p l ih=>
  intro v hv
  simp only [AU,List.mem_cons] at hv
  rcases hv with rfl|rfl|hv
  ·rfl
  ·rfl
  ·exact ih v hv
theorem rV (l:List (Int×Int)) (m:Nat):(AU l).take (m*2)=AU (l.take m):=by
 induction l generalizing m with
 | nil=>simp [AU]
 | cons p l ih=>
  cases m with
  | zero=>simp [AU]
  | succ m=>
   rw [show (m+1)*2=m*2+1+1 by omega,List.take_succ_cons]
   simp only [AU,List.take_succ_cons,ih]
theorem rX (l:List Int) (m:Nat):(AH l).take (m*1)=AH (l.take m):=by simp [AH,List.map_take]
theorem InK.takeK {w:World} {X:Option Addr} {n k m:Nat} {xs:List Value} (h:InK w X n k xs) (hm:m<=n):InK w X m k (xs.take (m*k)):=by
 have hmk:m*k<=n*k:=Nat.mul_le_mul_right k hm
 refine ⟨by rw [List.length_take,h.1];omega,fun h0=>?_⟩
 obtain ⟨ad,e,h1,h2⟩:=h.2 (by omega)
 exact ⟨ad,e,h1,fun i hi=>by rw [h2 i (by omega),List.getElem?_take,if_pos hi]⟩
theorem rY (c:Cm) (A:Option Addr) (ac:Nat) (M:Option Addr) (mc:Nat) (w:World) (hA:InK w A c.pts.length 2 (AU c.pts)) (hac:c.pts.length<=ac) (hM:InK w M c.masks.length 1 (AH c.masks)) (hmc:c.masks.length<=mc) :
  Calls Tryz.prog 14 #[.agg (c.cs A ac M mc)] w fun e w'=>∃v,e=.returned v/\CmK w' v (M0 c)/\Below w.heap.size w w':=by
 obtain ⟨mn,hmn⟩:∃mn,mn=c.masks.length:=⟨_,rfl⟩
 obtain ⟨pn,hpn⟩:∃pn,pn=c.pts.length:=⟨_,rfl⟩
 obtain ⟨m,hm⟩:∃m,m=min mn 310:=⟨_,rfl⟩
 obtain ⟨p,hp⟩:∃p,p=min pn 40:=⟨_,rfl⟩
 have e1:min (mn:Int) 310=(m:Int):=by omega
 have e2:min (pn:Int) 40=(p:Int):=by omega
 have hm1:m<=mc:=by omega
 have hp1:p<=ac:=by omega
 have hm2:m<=310:=by omega
 have hp2:p<=40:=by omega
 have HA:=AA (hA.takeK (m:=p) (by omega))
 have HM:=AA (hM.takeK (m:=m) (by omega))
 have HL:=AA (show (c.masks.take 310).length=m/\(c.pts.take 40).length=p/\c.masks.take m=c.masks.take 310/\c.pts.take p=c.pts.take 40 from
  ⟨by rw [List.length_take];omega,by rw [List.length_take];omega,by
   rw [hm,hmn,Nat.min_comm,<-List.take_take,List.take_length],by
   rw [hp,hpn,Nat.min_comm,<-List.take_take,List.take_length]⟩)
 have hcs:c.cs A ac M mc=AI c.kind ⟨c.ok,c.mkd,c.mn,c.me,c.mf,c.ms,A,pn,ac,c.qk,c.qn,c.qa,c.qb,c.qw,c.qN,c.nm,c.t,c.bits⟩ c.n M mn mc:=by rw [hmn,hpn];rfl
 rw [hcs]
 rw [rV] at HA
 rw [rX] at HM
 obtain ⟨kind,ok,mkd,mnn,me,mf,ms,pts,qk,qn,qa,qb,qw,qN,nm,t,bits,n,masks⟩:=c
 simp only at *
 clear hA hM hac hmc hm hp hcs hmn hpn
 unfold AI
 obtain ⟨R,hR⟩:∃R:Array Value,R=#[.int .i64 kind,.int .i64 ok,.int .i64 mkd,.string mnn,.int .i64 me,.int .i64 mf,.int .i64 ms,.slice A pn ac,.int .i64 qk,.string qn,.int .i64 qa,.int .i64 qb,.int .i64 qw,.int .i64 qN,.string nm,.int .i64 t,.int .u64 bits,.int .i64 n,.slice M mn mc]:=⟨_,rfl⟩
 have fr0:=kp (bA (b0 _) (.cells AD 48)) (na w R 48)
 have ft0:=na (w.alloc (.cells R 48)) AD 48
 have hb0:Below w.heap.size w ((w.alloc (.cells R 48)).alloc (.cells AD 48)):=bA (bA (b0 w) _) _
 have hs0:((w.alloc (.cells R 48)).alloc (.cells AD 48)).heap.size=w.heap.size+2:=by simp
 have hs1:(w.alloc (.cells R 48)).heap.size=w.heap.size+1:=by simp
 rw [hs1] at ft0
 have hO:=BT.fresh (T:=3) (k:=1) ((w.alloc (.cells R 48)).alloc (.cells AD 48))
 have HI:=AA ((HM.out.below hb0).below (bA (b0 _) (.cells #[] 3)))
 have fr1:=kp (bA (b0 _) (.cells #[] 3)) fr0
 have ft1:=kp (bA (b0 _) (.cells #[] 3)) ft0
 have hb1:Below w.heap.size w (((w.alloc (.cells R 48)).alloc (.cells AD 48)).alloc (.cells #[] 3)):=bA hb0 _
 have hs2:w.heap.size+1+1<=(((w.alloc (.cells R 48)).alloc (.cells AD 48)).alloc (.cells #[] 3)).heap.size:=by simp
 simp only [World.size_alloc] at hO
 rw [hR] at fr1 ft1 hb1 hO hs2 HI
 have z1:=(AB fr1).1
 rw [<-hR]
 have FR:=AA fr1
 have FT:=AA ft1
 have HB1:=AA hb1
 have HO:=AA hO
 have hR2:=AA hs2
 clear hs0 hs1 hb0 fr0 ft0 fr1 ft1 hb1 hO hs2
 subst hR
 go_enter Tryz.func14,Tryz.ntmps14
 go_wp2_with (first
  | (refine XR rfl 46 3 1 Tryz.underlying46 (fun w=>Tryz.sizeOf3 w) _ _ rfl M mn m mc rfl rfl hm1 ?_;simp only [Act.put,lA1,lZ1,lS1])
  | (refine JT rfl _ _ _ rfl 8 Tryz.underlying46 O4 rfl (by decide) (by decide) (w.heap.size+1+1) _ 0 m [] (AH (masks.take m)) M mc rfl rfl HO.out HI.out (fun v hv=>UP _ v hv) (by omega) hR2.out ?_;intro v4 w4 hO4 hlow4 hsz4;rw [Nat.zero_add,List.nil_append] at hO4;obtain ⟨M4,c4,rfl,hk4⟩:=hO4.cr;have hb4:=hlow4 _ (Below.refl _ _);have f4:=(hb4.block w.heap.size (by omega)).trans FR.out;have t4:=(hb4.block (w.heap.size+1) (by omega)).trans FT.out;have HK4:=AA hk4;have HB4:=AA (HB1.out.trans (hb4.mono (by omega)));clear z1 hlow4 hsz4 hO4 hk4 hb4 HO HI hR2 FR FT HB1)
  | (refine NK rfl 46 3 Tryz.underlying46 _ _ rfl w.heap.size 18 48 _ M4 m c4 rfl rfl f4 (by simp) (fun w=>Tryz.sizeOf46 w) ?_;generalize hT5:setRow w4 _ _=w5;obtain ⟨hx5,f5⟩:=AK (b0 _) f4 hT5;simp only [lA1,lZ1,lS1] at f5;have t5:=kx hx5 t4 (by omega);have HB5:=AA (bX HB4.out hx5 (Nat.le_refl _));have HK5:=AA (HK4.out.exc hx5 f4 (by decide));have HO5:=AA (BT.fresh (T:=99) (k:=2) w5);have HI5:=AA ((HA.out.below HB5.out).below (bA (b0 w5) (.cells #[] 99)));have z5:=(AB (kp (bA (b0 w5) (.cells #[] 99)) f5)).1;have hR5:=AA (show w5.heap.size<=(w5.alloc (.cells #[] 99)).heap.size by simp);clear hT5 hx5 f4 t4)
  | (refine XR rfl 22 99 2 Tryz.underlying22 (fun w=>Tryz.sizeOf99 w) _ _ rfl A pn p ac rfl rfl hp1 ?_;simp only [Act.put,lA1,lZ1,lS1])
  | (refine JT rfl _ _ _ rfl 16 Tryz.underlying22 O5 rfl (by decide) (by decide) w5.heap.size _ 0 p [] (AU (pts.take p)) A ac rfl rfl HO5.out HI5.out (fun v hv=>rU _ v hv) (by omega) hR5.out ?_;intro v6 w6 hO6 hlow6 hsz6;rw [Nat.zero_add,List.nil_append] at hO6;obtain ⟨A6,c6,rfl,hk6⟩:=hO6.cr;have hb6:=hlow6 w5 (bA (b0 w5) _);have f6:=kp hb6 f5;have t6:=kp hb6 t5;have HK6:=AA hk6;have HK56:=AA (HK5.out.below hb6);have HB6:=AA (bB HB5.out hb6);clear z5 hlow6 hsz6 hO6 hk6 hb6 HO5 HI5 hR5 f5 t5 HK5)
  | (refine NK rfl 22 99 Tryz.underlying22 _ _ rfl w.heap.size 7 48 _ A6 p c6 rfl rfl f6 (by simp) (fun w=>Tryz.sizeOf22 w) ?_;generalize hT7:setRow w6 _ _=w7;obtain ⟨hx7,f7⟩:=AK (b0 _) f6 hT7;simp only [lA1,lZ1,lS1] at f7;have t7:=kx hx7 t6 (by omega);have HB7:=AA (bX HB6.out hx7 (Nat.le_refl _));have HK7:=AA (HK6.out.exc hx7 f6 (by decide));have HK57:=AA (HK56.out.exc hx7 f6 (by decide));obtain ⟨Z,hZ⟩:∃Z,Z=AI kind ⟨ok,mkd,mnn,me,mf,ms,A6,p,c6,qk,qn,qa,qb,qw,qN,nm,t,bits⟩ n M4 m c4:=⟨_,rfl⟩;have f8:w7.heap[w.heap.size]?=some (.cells Z 48 (0,0)):=(by rw [hZ];simpa [AI] using f7);have hZs:Z.size=19:=(by rw [hZ];rfl);have hZ1:Z.all (·.oneCell')=true:=(by rw [hZ];exact BB _ _ _ _ _ _);have HZ:=AA hZ;clear hT7 hx7 f7 f6 t6 hZ)
  | (refine DU rfl _ _ rfl w.heap.size 48 Z rfl f8 _ rfl Tryz.underlying48 (by rw [AE,hZs]) ?_;simp only [Act.put,lA1,lZ1,lS1])
  | (refine AG rfl _ _ _ rfl (w.heap.size+1) 48 _ Z rfl rfl t7 (by rw [AE,hZs]) (by rw [hZs];rfl) hZ1 ?_;simp only [Act.put]))
 generalize hT:setRow w7 _ Z=w9
 obtain ⟨hx9,f9⟩:=AK (b0 _) t7 hT
 refine bodyPost_ret (v:=.agg Z) (G5 Tryz.results14 rfl (F8 f9 hZs)) rfl ⟨_,rfl,?_,bX HB7.out hx9 (by omega)⟩
 obtain ⟨l1,l2,l3,l4⟩:=HL.out
 have k1:=HK7.out.exc hx9 t7 (by decide)
 have k2:=HK57.out.exc hx9 t7 (by decide)
 rw [HZ.out,<-l1,<-l2]
 rw [l4] at k1
 rw [l3] at k2
 refine ⟨A6,c6,M4,c4,rfl,?_,?_⟩
 ·show RK 99 2 w9 A6 (pts.take 40).length c6 (AU (pts.take 40))
  rw [l2]
  exact k1
 ·show RK 3 1 w9 M4 (masks.take 310).length c4 (AH (masks.take 310))
  rw [l1]
  exact k2
def JN (c:Cm):Bool:=decide (1000<c.nm.size) || (decide (1000<c.qn.size) || decide (1000<c.mn.size))
theorem rZ (c:Cm) (A:Option Addr) (ac:Nat) (M:Option Addr) (mc:Nat) (w:World) :
  Calls Tryz.prog 15 #[.agg (c.cs A ac M mc)] w fun e w'=>e=.returned (.bool (JN c))/\Below w.heap.size w w':=by
 obtain ⟨kind,ok,mkd,mnn,me,mf,ms,pts,qk,qn,qa,qb,qw,qN,nm,t,bits,n,masks⟩:=c
 unfold JN Cm.cs AI
 simp only
 have hb:=bA (b0 w) (.cells #[.int .i64 kind,.int .i64 ok,.int .i64 mkd,.string mnn,.int .i64 me,.int .i64 mf,.int .i64 ms,.slice A pts.length ac,.int .i64 qk,.string qn,.int .i64 qa,.int .i64 qb,.int .i64 qw,.int .i64 qN,.string nm,.int .i64 t,.int .u64 bits,.int .i64 n,.slice M masks.length mc] 48)
 have d1:decide ((1000:Int)<(nm.size:Int))=decide (1000<nm.size):=by simp;omega
 have d2:decide ((1000:Int)<(qn.size:Int))=decide (1000<qn.size):=by simp;omega
 have d3:decide ((1000:Int)<(mnn.size:Int))=decide (1000<mnn.size):=by simp;omega
 generalize decide (1000<nm.size)=x1 at *
 generalize decide (1000<qn.size)=x2 at *
 generalize decide (1000<mnn.size)=x3 at *
 cases x1 <;> cases x2 <;> cases x3
 all_goals
  go_enter Tryz.func15,Tryz.ntmps15
  go_wp2
  go_ret
  exact ⟨rfl,hb⟩
theorem XS {α:Type} {l m:List α} {k:Nat} (h1:k<l.length) (h2:k<m.length) (hne:l[k]≠m[k]):l≠m:=by
 rintro rfl
 exact hne rfl
theorem XT {α:Type} {l m:List α} {k:Nat} (h:l.take k=m.take k) (h1:k<l.length) (h2:k<m.length) (he:l[k]=m[k]):l.take (k+1)=m.take (k+1):=by
 rw [List.take_succ_eq_append_getElem h1,List.take_succ_eq_append_getElem h2,h,he]
theorem sA (A:Option Addr) (c:Nat) (A2:Option Addr) (c2:Nat) (ps qs:List (Int×Int)) (w:World) (hA:InV w A (AU ps)) (hC:InV w A2 (AU qs)) (hp:ps.length<=9223372036854775807) (hq:qs.length<=9223372036854775807) :
  Calls Tryz.prog 41 #[.slice A ps.length c,.slice A2 qs.length c2] w fun e w'=>∃b:Bool,e=.returned (.bool b)/\(b=true↔ps=qs)/\Below w.heap.size w w':=by
 have HA:=AA hA
 have HC:=AA hC
 clear hA hC
 by_cases hl:ps.length=qs.length
 ·obtain ⟨n,hn⟩:∃n,n=ps.length:=⟨_,rfl⟩
  have HL:=AA (show ps.length=n/\qs.length=n from ⟨hn.symm,by omega⟩)
  rw [<-hl,<-hn]
  rw [<-hn] at hp
  clear hl hn hq
  go_enter Tryz.func41,Tryz.ntmps41
  go_wp2_with fail
  go_loopw [13] (fun v13 wr=>∃k:Nat,v13=.int .i64 (k:Int)/\k<=n/\Hid (ps.take k=qs.take k)/\Below w.heap.size w wr) (fun v13 _=>n-(intOf v13).toNat)
  case atStart=>exact ⟨0,rfl,by omega,AA (by simp),b0 _⟩
  case round=>
   obtain ⟨k,rfl,hk,HT,hb⟩:=hrel
   by_cases hlt:k<n
   ·have e1:decide ((k:Int)<(n:Int))=true:=decide_eq_true (by omega)
    have hk1:k<ps.length:=by have:=HL.out;omega
    have hk2:k<qs.length:=by have:=HL.out;omega
    obtain ⟨adA,rfl,-,-⟩:=HA.out (by have:=H3 ps;omega)
    obtain ⟨adC,rfl,-,-⟩:=HC.out (by have:=H3 qs;omega)
    have PM:=fun w0 (hI:Below wr.heap.size wr w0)=>KA HA.out (bB hb hI) k hk1
    have PN:=fun w0 (hI:Below wr.heap.size wr w0)=>KA HC.out (bB hb hI) k hk2
    have HE:=AA (fun he:ps[k]=qs[k]=>XT HT.out hk1 hk2 he)
    have HF:=AA (fun he:ps[k]≠qs[k]=>XS hk1 hk2 he)
    generalize ps[k]=p at *
    generalize qs[k]=q at *
    obtain ⟨p1,p2⟩:=p
    obtain ⟨q1,q2⟩:=q
    simp only at PM PN
    clear hk1 hk2 HT
    by_cases h1:p1=q1
    ·subst h1
     by_cases h2:p2=q2
     ·subst h2
      have HE2:=AA (HE.out rfl)
      clear HE HF
      go_wp2_with fail
      refine Abs.wp_region_abs (Abs.cls0 _) [0,1,2,3,4,5,6,7,8] (by kernel_rfl) (by kernel_rfl) (Below.refl _ _).drew ?_
      iterate 3 (refine Abs.step_pure rfl rfl (fun K hK=>?_);go_simp;(try go_bits);(first|refine hK _ _ ?_|(simp only [↓IntWalk.iteOmega];go_simp;(try go_bits);refine hK _ _ ?_));clear hK K)
      (refine Abs.step_load (v:=?_) rfl rfl (by kernel_rfl) rfl (fun w0 hI=>?_) (fun K hK=>?_);rotate_left;(· obtain ⟨zp0,zq0⟩:=PM w0 hI;obtain ⟨zp1,zq1⟩:=PN w0 hI;go_simp;rfl);(simp only [Act.put,lA1,lZ1,lS1];refine hK _ _ ?_;clear hK K))
      iterate 3 (refine Abs.step_pure rfl rfl (fun K hK=>?_);go_simp;(try go_bits);(first|refine hK _ _ ?_|(simp only [↓IntWalk.iteOmega];go_simp;(try go_bits);refine hK _ _ ?_));clear hK K)
      (refine Abs.step_load (v:=?_) rfl rfl (by kernel_rfl) rfl (fun w0 hI=>?_) (fun K hK=>?_);rotate_left;(· obtain ⟨zp0,zq0⟩:=PM w0 hI;obtain ⟨zp1,zq1⟩:=PN w0 hI;go_simp;rfl);(simp only [Act.put,lA1,lZ1,lS1];refine hK _ _ ?_;clear hK K))
      (refine Abs.step_pure rfl rfl (fun K hK=>?_);go_simp;(try go_bits);(first|refine hK _ _ ?_|(simp only [↓IntWalk.iteOmega];go_simp;(try go_bits);refine hK _ _ ?_));clear hK K)
      (intro w5 hb5 hx0 hx1 hx2;clear hx0 hx1 hx2;simp only [Abs.T_setF,Abs.T_addA,Abs.T_push,Abs.T_start])
      have hb6:=bB hb hb5
      go_wp2_with fail
      go_roundw
      case rel=>exact ⟨k+1,by go_num,by omega,HE2,hb6⟩
      case measure=>simp [intOf];omega
     ·have HF2:=AA (HF.out (by simpa using h2))
      have h2a:(p2== q2)=false:=beq_eq_false_iff_ne.2 h2
      have h2b:decide (p2=q2)=false:=decide_eq_false h2
      clear HE HF
      go_wp2_with fail
      refine Abs.wp_region_abs (Abs.cls0 _) [0,1,2,3,4,5,6,7,8] (by kernel_rfl) (by kernel_rfl) (Below.refl _ _).drew ?_
      iterate 3 (refine Abs.step_pure rfl rfl (fun K hK=>?_);go_simp;(try go_bits);(first|refine hK _ _ ?_|(simp only [↓IntWalk.iteOmega];go_simp;(try go_bits);refine hK _ _ ?_));clear hK K)
      (refine Abs.step_load (v:=?_) rfl rfl (by kernel_rfl) rfl (fun w0 hI=>?_) (fun K hK=>?_);rotate_left;(· obtain ⟨zp0,zq0⟩:=PM w0 hI;obtain ⟨zp1,zq1⟩:=PN w0 hI;go_simp;rfl);(simp only [Act.put,lA1,lZ1,lS1];refine hK _ _ ?_;clear hK K))
      iterate 3 (refine Abs.step_pure rfl rfl (fun K hK=>?_);go_simp;(try go_bits);(first|refine hK _ _ ?_|(simp only [↓IntWalk.iteOmega];go_simp;(try go_bits);refine hK _ _ ?_));clear hK K)
      (refine Abs.step_load (v:=?_) rfl rfl (by kernel_rfl) rfl (fun w0 hI=>?_) (fun K hK=>?_);rotate_left;(· obtain ⟨zp0,zq0⟩:=PM w0 hI;obtain ⟨zp1,zq1⟩:=PN w0 hI;go_simp;rfl);(simp only [Act.put,lA1,lZ1,lS1];refine hK _ _ ?_;clear hK K))
      (refine Abs.step_pure rfl rfl (fun K hK=>?_);go_simp;(try go_bits);(first|refine hK _ _ ?_|(simp only [↓IntWalk.iteOmega];go_simp;(try go_bits);refine hK _ _ ?_));clear hK K)
      (intro w5 hb5 hx0 hx1 hx2;clear hx0 hx1 hx2;simp only [Abs.T_setF,Abs.T_addA,Abs.T_push,Abs.T_start])
      have hb6:=bB hb hb5
      go_wp2_with fail
      go_ret
      exact ⟨_,rfl,⟨(fun h=>by cases h),fun h=>absurd h HF2.out⟩,hb6⟩
    ·have HF2:=AA (HF.out (by intro e;exact h1 (congrArg Prod.fst e)))
     have h1a:(p1== q1)=false:=beq_eq_false_iff_ne.2 h1
     have h1b:decide (p1=q1)=false:=decide_eq_false h1
     clear HE HF
     go_wp2_with fail
     refine Abs.wp_region_abs (Abs.cls0 _) [0,1,2,3,4,5,6,7,8] (by kernel_rfl) (by kernel_rfl) (Below.refl _ _).drew ?_
     iterate 3 (refine Abs.step_pure rfl rfl (fun K hK=>?_);go_simp;(try go_bits);(first|refine hK _ _ ?_|(simp only [↓IntWalk.iteOmega];go_simp;(try go_bits);refine hK _ _ ?_));clear hK K)
     (refine Abs.step_load (v:=?_) rfl rfl (by kernel_rfl) rfl (fun w0 hI=>?_) (fun K hK=>?_);rotate_left;(· obtain ⟨zp0,zq0⟩:=PM w0 hI;obtain ⟨zp1,zq1⟩:=PN w0 hI;go_simp;rfl);(simp only [Act.put,lA1,lZ1,lS1];refine hK _ _ ?_;clear hK K))
     iterate 3 (refine Abs.step_pure rfl rfl (fun K hK=>?_);go_simp;(try go_bits);(first|refine hK _ _ ?_|(simp only [↓IntWalk.iteOmega];go_simp;(try go_bits);refine hK _ _ ?_));clear hK K)
     (refine Abs.step_load (v:=?_) rfl rfl (by kernel_rfl) rfl (fun w0 hI=>?_) (fun K hK=>?_);rotate_left;(· obtain ⟨zp0,zq0⟩:=PM w0 hI;obtain ⟨zp1,zq1⟩:=PN w0 hI;go_simp;rfl);(simp only [Act.put,lA1,lZ1,lS1];refine hK _ _ ?_;clear hK K))
     (refine Abs.step_pure rfl rfl (fun K hK=>?_);go_simp;(try go_bits);(first|refine hK _ _ ?_|(simp only [↓IntWalk.iteOmega];go_simp;(try go_bits);refine hK _ _ ?_));clear hK K)
     (intro w5 hb5 hx0 hx1 hx2;clear hx0 hx1 hx2;simp only [Abs.T_setF,Abs.T_addA,Abs.T_push,Abs.T_start])
     have hb6:=bB hb hb5
     go_wp2_with fail
     go_ret
     exact ⟨_,rfl,⟨(fun h=>by cases h),fun h=>absurd h HF2.out⟩,hb6⟩
   ·have e1:decide ((k:Int)<(n:Int))=false:=decide_eq_false (by omega)
    have HE:Hid (ps=qs):=AA (by
     obtain ⟨l1,l2⟩:=HL.out
     have:=HT.out
     rwa [List.take_of_length_le (by omega),List.take_of_length_le (by omega)] at this)
    go_wp2_with fail
    go_ret
    exact ⟨_,rfl,⟨fun _=>HE.out,fun _=>rfl⟩,hb⟩
 ·have e1:((ps.length:Int) != (qs.length:Int))=true:=by simp;omega
  have e2:decide ((ps.length:Int)=(qs.length:Int))=false:=decide_eq_false (by omega)
  have e3:((ps.length:Int)== (qs.length:Int))=false:=beq_eq_false_iff_ne.2 (by omega)
  have HN:=AA (show ps≠qs from fun e=>hl (by rw [e]))
  clear hl
  go_enter Tryz.func41,Tryz.ntmps41
  go_wp2_with fail
  go_ret
  exact ⟨_,rfl,⟨(fun h=>by cases h),fun h=>absurd h HN.out⟩,b0 _⟩
theorem sB (A:Option Addr) (c:Nat) (A2:Option Addr) (c2:Nat) (ps qs:List Int) (w:World) (hA:InV w A (AH ps)) (hC:InV w A2 (AH qs)) (hp:ps.length<=9223372036854775807) (hq:qs.length<=9223372036854775807) :
  Calls Tryz.prog 42 #[.slice A ps.length c,.slice A2 qs.length c2] w fun e w'=>∃b:Bool,e=.returned (.bool b)/\(b=true↔ps=qs)/\Below w.heap.size w w':=by
 have HA:=AA hA
 have HC:=AA hC
 clear hA hC
 by_cases hl:ps.length=qs.length
 ·obtain ⟨n,hn⟩:∃n,n=ps.length:=⟨_,rfl⟩
  have HL:=AA (show ps.length=n/\qs.length=n from ⟨hn.symm,by omega⟩)
  rw [<-hl,<-hn]
  rw [<-hn] at hp
  clear hl hn hq
  go_enter Tryz.func42,Tryz.ntmps42
  go_wp2_with fail
  go_loopw [13] (fun v13 wr=>∃k:Nat,v13=.int .i64 (k:Int)/\k<=n/\Hid (ps.take k=qs.take k)/\Below w.heap.size w wr) (fun v13 _=>n-(intOf v13).toNat)
  case atStart=>exact ⟨0,rfl,by omega,AA (by simp),b0 _⟩
  case round=>
   obtain ⟨k,rfl,hk,HT,hb⟩:=hrel
   by_cases hlt:k<n
   ·have e1:decide ((k:Int)<(n:Int))=true:=decide_eq_true (by omega)
    have hk1:k<ps.length:=by have:=HL.out;omega
    have hk2:k<qs.length:=by have:=HL.out;omega
    obtain ⟨adA,rfl,-,-⟩:=HA.out (by rw [BL];omega)
    obtain ⟨adC,rfl,-,-⟩:=HC.out (by rw [BL];omega)
    have PM:∀w0,Below wr.heap.size wr w0->w0.cell? (adA.add k)=some (.int .i64 ps[k]):=fun w0 hI=>by
     obtain ⟨ad',e,-,hc⟩:=(HA.out.below (bB hb hI)) (by rw [BL];omega)
     obtain rfl:=Option.some.inj e
     have:=hc k (by rw [BL];omega)
     rw [this];simp [AH]
    have PN:∀w0,Below wr.heap.size wr w0->w0.cell? (adC.add k)=some (.int .i64 qs[k]):=fun w0 hI=>by
     obtain ⟨ad',e,-,hc⟩:=(HC.out.below (bB hb hI)) (by rw [BL];omega)
     obtain rfl:=Option.some.inj e
     have:=hc k (by rw [BL];omega)
     rw [this];simp [AH]
    have HE:=AA (fun he:ps[k]=qs[k]=>XT HT.out hk1 hk2 he)
    have HF:=AA (fun he:ps[k]≠qs[k]=>XS hk1 hk2 he)
    generalize ps[k]=p at *
    generalize qs[k]=q at *
    clear hk1 hk2 HT
    by_cases h2:p=q
    ·subst h2
     have HE2:=AA (HE.out rfl)
     clear HE HF
     go_wp2_with fail
     refine Abs.wp_region_abs (Abs.cls0 _) [0,1,2,3,4,5,6,7,8] (by kernel_rfl) (by kernel_rfl) (Below.refl _ _).drew ?_
     iterate 3 (refine Abs.step_pure rfl rfl (fun K hK=>?_);go_simp;(try go_bits);(first|refine hK _ _ ?_|(simp only [↓IntWalk.iteOmega];go_simp;(try go_bits);refine hK _ _ ?_));clear hK K)
     (refine Abs.step_load (v:=?_) rfl rfl (by kernel_rfl) rfl (fun w0 hI=>?_) (fun K hK=>?_);rotate_left;(· have z0:=PM w0 hI;have z1:=PN w0 hI;go_simp;rfl);(simp only [Act.put,lA1,lZ1,lS1];refine hK _ _ ?_;clear hK K))
     iterate 3 (refine Abs.step_pure rfl rfl (fun K hK=>?_);go_simp;(try go_bits);(first|refine hK _ _ ?_|(simp only [↓IntWalk.iteOmega];go_simp;(try go_bits);refine hK _ _ ?_));clear hK K)
     (refine Abs.step_load (v:=?_) rfl rfl (by kernel_rfl) rfl (fun w0 hI=>?_) (fun K hK=>?_);rotate_left;(· have z0:=PM w0 hI;have z1:=PN w0 hI;go_simp;rfl);(simp only [Act.put,lA1,lZ1,lS1];refine hK _ _ ?_;clear hK K))
     (refine Abs.step_pure rfl rfl (fun K hK=>?_);go_simp;(try go_bits);(first|refine hK _ _ ?_|(simp only [↓IntWalk.iteOmega];go_simp;(try go_bits);refine hK _ _ ?_));clear hK K)
     (intro w5 hb5 hx0 hx1 hx2;clear hx0 hx1 hx2;simp only [Abs.T_setF,Abs.T_addA,Abs.T_push,Abs.T_start])
     have hb6:=bB hb hb5
     go_wp2_with fail
     go_roundw
     case rel=>exact ⟨k+1,by go_num,by omega,HE2,hb6⟩
     case measure=>simp [intOf];omega
    ·have HF2:=AA (HF.out h2)
     have h2a:(p== q)=false:=beq_eq_false_iff_ne.2 h2
     have h2b:decide (p=q)=false:=decide_eq_false h2
     clear HE HF
     go_wp2_with fail
     refine Abs.wp_region_abs (Abs.cls0 _) [0,1,2,3,4,5,6,7,8] (by kernel_rfl) (by kernel_rfl) (Below.refl _ _).drew ?_
     iterate 3 (refine Abs.step_pure rfl rfl (fun K hK=>?_);go_simp;(try go_bits);(first|refine hK _ _ ?_|(simp only [↓IntWalk.iteOmega];go_simp;(try go_bits);refine hK _ _ ?_));clear hK K)
     (refine Abs.step_load (v:=?_) rfl rfl (by kernel_rfl) rfl (fun w0 hI=>?_) (fun K hK=>?_);rotate_left;(· have z0:=PM w0 hI;have z1:=PN w0 hI;go_simp;rfl);(simp only [Act.put,lA1,lZ1,lS1];refine hK _ _ ?_;clear hK K))
     iterate 3 (refine Abs.step_pure rfl rfl (fun K hK=>?_);go_simp;(try go_bits);(first|refine hK _ _ ?_|(simp only [↓IntWalk.iteOmega];go_simp;(try go_bits);refine hK _ _ ?_));clear hK K)
     (refine Abs.step_load (v:=?_) rfl rfl (by kernel_rfl) rfl (fun w0 hI=>?_) (fun K hK=>?_);rotate_left;(· have z0:=PM w0 hI;have z1:=PN w0 hI;go_simp;rfl);(simp only [Act.put,lA1,lZ1,lS1];refine hK _ _ ?_;clear hK K))
     (refine Abs.step_pure rfl rfl (fun K hK=>?_);go_simp;(try go_bits);(first|refine hK _ _ ?_|(simp only [↓IntWalk.iteOmega];go_simp;(try go_bits);refine hK _ _ ?_));clear hK K)
     (intro w5 hb5 hx0 hx1 hx2;clear hx0 hx1 hx2;simp only [Abs.T_setF,Abs.T_addA,Abs.T_push,Abs.T_start])
     have hb6:=bB hb hb5
     go_wp2_with fail
     go_ret
     exact ⟨_,rfl,⟨(fun h=>by cases h),fun h=>absurd h HF2.out⟩,hb6⟩
   ·have e1:decide ((k:Int)<(n:Int))=false:=decide_eq_false (by omega)
    have HE:Hid (ps=qs):=AA (by
     obtain ⟨l1,l2⟩:=HL.out
     have:=HT.out
     rwa [List.take_of_length_le (by omega),List.take_of_length_le (by omega)] at this)
    go_wp2_with fail
    go_ret
    exact ⟨_,rfl,⟨fun _=>HE.out,fun _=>rfl⟩,hb⟩
 ·have e1:((ps.length:Int) != (qs.length:Int))=true:=by simp;omega
  have e2:decide ((ps.length:Int)=(qs.length:Int))=false:=decide_eq_false (by omega)
  have e3:((ps.length:Int)== (qs.length:Int))=false:=beq_eq_false_iff_ne.2 (by omega)
  have HN:=AA (show ps≠qs from fun e=>hl (by rw [e]))
  clear hl
  go_enter Tryz.func42,Tryz.ntmps42
  go_wp2_with fail
  go_ret
  exact ⟨_,rfl,⟨(fun h=>by cases h),fun h=>absurd h HN.out⟩,b0 _⟩
theorem InK.inV1 {w:World} {X:Option Addr} {n k:Nat} {xs:List Value} (h:InK w X n k xs):InV w X xs:=fun h0=>by
 have hl:=h.1
 have hn:0<n:=by
  rcases Nat.eq_zero_or_pos n with e|e
  ·subst e;rw [Nat.zero_mul] at hl;omega
  ·exact e
 obtain ⟨ad,e,h1,h2⟩:=h.2 hn
 exact ⟨ad,e,h1,fun i hi=>by rw [h2 i (by omega),List.getElem?_eq_getElem hi]⟩
def evB (t:Array Value) (c:Operand):Option Bool:=match Act.eval { tmps:=t,defers:=[] } c with
 | .bool b=>some b
 | _=>none
def JO (ops:Array Oper):List Oper->Array Value->Option (Array Value)
 | [],t=>some t
 | o::rest,t=>
  cond (Region.wanted o (yielded ops t))
   (match o.op with
    | .move x=>JO ops rest (Act.put { tmps:=t,defers:=[] } o.dst (Act.eval { tmps:=t,defers:=[] } x)).tmps
    | .pick c a b=>match evB t c with
     | some z=>JO ops rest (Act.put { tmps:=t,defers:=[] } o.dst (Act.eval { tmps:=t,defers:=[] } (cond z a b))).tmps
     | none=>none
    | _=>none)
   (JO ops rest (Act.put { tmps:=t,defers:=[] } o.dst undef).tmps)
theorem SK (t:Array Value) (d:Option Tmp) (v:Value):Act.put { tmps:=t,defers:=[] } d v={ tmps:=(Act.put { tmps:=t,defers:=[] } d v).tmps,defers:=[] }:=by cases d <;> rfl
theorem OQ {P:Program} {ops:Array Oper} {Q:Exit->Act->World->Prop} {w:World}:∀(l:List Oper) (t t':Array Value),JO ops l t=some t'->Q .normal { tmps:=t',defers:=[] } w->wpList P ops Q l { tmps:=t,defers:=[] } w
 | [],t,t',h,hq=>by cases h;exact hq
 | o::rest,t,t',h,hq=>by
  unfold JO at h
  refine wpList_step fun K hK=>?_
  cases hw:Region.wanted o (yielded ops t) with
  | false=>
   rw [hw] at h
   simp only [Bool.false_eq_true,if_false]
   rw [SK]
   exact hK _ _ (OQ rest _ t' h hq)
  | true=>
   rw [hw] at h
   simp only [if_true]
   simp only [cond] at h
   split at h
   ·next x ho=>
    unfold Oper.wp execOp
    simp only [ho,Sem.run_pure]
    rw [Oper.upon_value,SK]
    exact hK _ _ (OQ rest _ t' h hq)
   ·next c a b ho=>
    split at h
    ·next z hz=>
     unfold evB at hz
     split at hz
     ·next b' hb=>
      cases hz
      unfold Oper.wp execOp
      simp only [ho,hb,asBool,pure_bind,Sem.run_bind,Sem.run_pure,Result.andThen_ok]
      rw [Oper.upon_value,SK]
      refine hK _ _ (OQ rest _ t' ?_ hq)
      cases z <;> exact h
     ·cases hz
    ·cases h
   ·cases h
def isT (d:Nat) (t:Array Value):Bool:=match t[d]? with
 | some (.bool b)=>b
 | _=>false
theorem DC {P:Program} {ops:Array Oper} {Q:Exit->Act->World->Prop} {w:World} {l:List Oper} {t:Array Value} (d n:Nat) (h:((JO ops l t).any fun t'=>isT d t' && Nat.beq t'.size n)=true)
  (hq:∀t':Array Value,t'.size=n->t'[d]?=some (.bool true)->Q .normal { tmps:=t',defers:=[] } w):wpList P ops Q l { tmps:=t,defers:=[] } w:=by
 cases hs:JO ops l t with
 | none=>rw [hs] at h;cases h
 | some t'=>
  rw [hs] at h
  simp only [Option.any_some,Bool.and_eq_true] at h
  refine OQ l t t' hs (hq t' (Nat.eq_of_beq_eq_true h.2) ?_)
  have h1:=h.1
  unfold isT at h1
  split at h1
  ·next b hb=>rw [hb,h1]
  ·cases h1
def B0 (R:Prop) (w:World) (e:Ending) (w':World):Prop:=∃b:Bool,e=.returned (.bool b)/\(b=true↔R)/\Below w.heap.size w w'
theorem B0.no {R:Prop} {w w':World} (h:R->False) (hb:Below w.heap.size w w'):B0 R w (.returned (.bool false)) w':=⟨false,rfl,⟨fun h=>(by cases h),fun r=>(h r).elim⟩,hb⟩
theorem B0.yes {R:Prop} {w w':World} (h:R) (hb:Below w.heap.size w w'):B0 R w (.returned (.bool true)) w':=⟨true,rfl,⟨fun _=>h,fun _=>rfl⟩,hb⟩
theorem XU (x y:Cm) (A:Option Addr) (ac:Nat) (M:Option Addr) (mc:Nat) (A2:Option Addr) (ac2:Nat) (M2:Option Addr) (mc2:Nat) (w:World) (h1:RK 99 2 w A x.pts.length ac (AU x.pts)) (h2:RK 3 1 w M x.masks.length mc (AH x.masks)) (h3:RK 99 2 w A2 y.pts.length ac2 (AU y.pts)) (h4:RK 3 1 w M2 y.masks.length mc2 (AH y.masks)) :
  Calls Tryz.prog 12 #[.agg (x.cs A ac M mc),.agg (y.cs A2 ac2 M2 mc2)] w fun e w'=>∃b:Bool,e=.returned (.bool b)/\(b=true↔x=y)/\Below w.heap.size w w':=by
 have l1:x.pts.length<=9223372036854775807:=Nat.le_trans h1.cap h1.top
 have l2:x.masks.length<=9223372036854775807:=Nat.le_trans h2.cap h2.top
 have l3:y.pts.length<=9223372036854775807:=Nat.le_trans h3.cap h3.top
 have l4:y.masks.length<=9223372036854775807:=Nat.le_trans h4.cap h4.top
 have CP:=AA (fun W (hb:Below w.heap.size w W)=>sA A ac A2 ac2 x.pts y.pts W (h1.inK.inV1.below hb) (h3.inK.inV1.below hb) l1 l3)
 have CI:=AA (fun W (hb:Below w.heap.size w W)=>sB M mc M2 mc2 x.masks y.masks W (h2.inK.inV1.below hb) (h4.inK.inV1.below hb) l2 l4)
 clear h1 h2 h3 h4 l1 l2 l3 l4
 obtain ⟨R,hR⟩:∃R:Prop,R=(x=y):=⟨_,rfl⟩
 rw [<-hR]
 unfold Cm.cs
 obtain ⟨x0,x1,x2,x3,x4,x5,x6,xp,x7,x8,x9,x10,x11,x12,x13,x14,x15,x16,xm⟩:=x
 obtain ⟨y0,y1,y2,y3,y4,y5,y6,yp,y7,y8,y9,y10,y11,y12,y13,y14,y15,y16,ym⟩:=y
 simp only at *
 have HR:=AA hR
 clear hR
 generalize xp.length=pn at *
 generalize yp.length=qn at *
 generalize xm.length=mn at *
 generalize ym.length=nn at *
 have g1:=kp (bA (b0 _) (.cells (AI y0 ⟨y1,y2,y3,y4,y5,y6,A2,qn,ac2,y7,y8,y9,y10,y11,y12,y13,y14,y15⟩ y16 M2 nn mc2) 48)) (na w (AI x0 ⟨x1,x2,x3,x4,x5,x6,A,pn,ac,x7,x8,x9,x10,x11,x12,x13,x14,x15⟩ x16 M mn mc) 48)
 have g2:=na (w.alloc (.cells (AI x0 ⟨x1,x2,x3,x4,x5,x6,A,pn,ac,x7,x8,x9,x10,x11,x12,x13,x14,x15⟩ x16 M mn mc) 48)) (AI y0 ⟨y1,y2,y3,y4,y5,y6,A2,qn,ac2,y7,y8,y9,y10,y11,y12,y13,y14,y15⟩ y16 M2 nn mc2) 48
 have hsz:(w.alloc (.cells (AI x0 ⟨x1,x2,x3,x4,x5,x6,A,pn,ac,x7,x8,x9,x10,x11,x12,x13,x14,x15⟩ x16 M mn mc) 48)).heap.size=w.heap.size+1:=by simp
 rw [hsz] at g2
 unfold AI at g1 g2
 have HB1:Hid (Below w.heap.size w ((w.alloc (.cells (AI x0 ⟨x1,x2,x3,x4,x5,x6,A,pn,ac,x7,x8,x9,x10,x11,x12,x13,x14,x15⟩ x16 M mn mc) 48)).alloc (.cells (AI y0 ⟨y1,y2,y3,y4,y5,y6,A2,qn,ac2,y7,y8,y9,y10,y11,y12,y13,y14,y15⟩ y16 M2 nn mc2) 48))):=AA (bA (bA (b0 w) _) _)
 unfold AI at HB1
 clear hsz
 unfold AI
 go_enter Tryz.func12,Tryz.ntmps12
 go_wp2_with fail
 generalize hw1:((w.alloc _).alloc _)=w1 at *
 clear hw1
 refine Abs.wp_region_abs (Abs.cls _ (fun _=>False)) [0,1,2,3,4,5,6,7] (by kernel_rfl) (by kernel_rfl) (Below.refl _ _).drew ?_
 (refine Abs.step_pure rfl rfl (fun K hK=>?_);go_simp;(try go_bits);(first|refine hK _ _ ?_|(simp only [↓IntWalk.iteOmega];go_simp;(try go_bits);refine hK _ _ ?_));clear hK K)
 (refine Abs.step_late (v:=?_) rfl rfl (fun w0 hI=>?_) (fun K hK=>?_);rotate_left;(· have z0:=(AB (A7 hI (g1))).1;have z1:=(AB (A7 hI (g2))).1;go_simp;rfl);(simp only [Act.put,lA1,lZ1,lS1];refine hK _ _ ?_;clear hK K))
 (refine Abs.step_pure rfl rfl (fun K hK=>?_);go_simp;(try go_bits);(first|refine hK _ _ ?_|(simp only [↓IntWalk.iteOmega];go_simp;(try go_bits);refine hK _ _ ?_));clear hK K)
 (refine Abs.step_late (v:=?_) rfl rfl (fun w0 hI=>?_) (fun K hK=>?_);rotate_left;(· have z0:=(AB (A7 hI (g1))).1;have z1:=(AB (A7 hI (g2))).1;go_simp;rfl);(simp only [Act.put,lA1,lZ1,lS1];refine hK _ _ ?_;clear hK K))
 (refine Abs.step_new (f:=fun g=>.pointer (some ⟨g,0,none⟩)) (obj:=?_) rfl rfl rfl rfl (fun w0=>?_) (fun K hK g_a hv_a hu_a=>?_);rotate_left;(· go_simp;rfl);(simp only [Act.put,lA1,lZ1,lS1];refine hK _ _ ?_;clear hK K))
 (refine Abs.step_new (f:=fun g=>.pointer (some ⟨g,0,none⟩)) (obj:=?_) rfl rfl rfl rfl (fun w0=>?_) (fun K hK g_b hv_b hu_b=>?_);rotate_left;(· go_simp;rfl);(simp only [Act.put,lA1,lZ1,lS1];refine hK _ _ ?_;clear hK K))
 have hn:g_b≠g_a:=fun e=>hu_b (Or.inl e)
 (refine Abs.step_store (T:=fun w0=>setRow w0 g_a #[.int .i64 x1,.int .i64 x2,.string x3,.int .i64 x4,.int .i64 x5,.int .i64 x6,.slice A pn ac,.int .i64 x7,.string x8,.int .i64 x9,.int .i64 x10,.int .i64 x11,.int .i64 x12,.string x13,.int .i64 x14,.int .u64 x15]) rfl rfl rfl (fun w0 hI hF hU=>?_) (fun w0 hI hU hJ=>BY hJ hv_a _) (fun K hK=>?_);(· simp only [Abs.T_setF,Abs.T_addA,Abs.T_push,Abs.T_start];exact BJ rfl rfl rfl ((hF 4).1.2 rfl) IV rfl (by simp [Value.oneCell']));(simp only [Act.put,lA1,lZ1,lS1];refine hK _ _ ?_;clear hK K))
 (refine Abs.step_store (T:=fun w0=>setRow (setRow w0 g_a #[.int .i64 x1,.int .i64 x2,.string x3,.int .i64 x4,.int .i64 x5,.int .i64 x6,.slice A pn ac,.int .i64 x7,.string x8,.int .i64 x9,.int .i64 x10,.int .i64 x11,.int .i64 x12,.string x13,.int .i64 x14,.int .u64 x15]) g_b #[.int .i64 y1,.int .i64 y2,.string y3,.int .i64 y4,.int .i64 y5,.int .i64 y6,.slice A2 qn ac2,.int .i64 y7,.string y8,.int .i64 y9,.int .i64 y10,.int .i64 y11,.int .i64 y12,.string y13,.int .i64 y14,.int .u64 y15]) rfl rfl rfl (fun w0 hI hF hU=>?_) (fun w0 hI hU hJ=>BY hJ hv_b _) (fun K hK=>?_);(· simp only [Abs.T_setF,Abs.T_addA,Abs.T_push,Abs.T_start];exact BJ rfl rfl rfl (((BD _ hn).trans ((hF 5).2 rfl))) IV rfl (by simp [Value.oneCell']));(simp only [Act.put,lA1,lZ1,lS1];refine hK _ _ ?_;clear hK K))
 intro w0 hI hF hx1 hx2
 have qa:=(hF 4).1.2 rfl
 have qb:=(hF 5).2 rfl
 clear hx1 hx2 hF
 simp only [Abs.T_setF,Abs.T_addA,Abs.T_push,Abs.T_start]
 have hv_a2:w1.heap.size<=g_a:=hv_a
 have hv_b2:w1.heap.size<=g_b:=hv_b
 generalize hTa:setRow w0 g_a _=wa
 obtain ⟨hba,fa2⟩:=BZ hI hv_a2 qa hTa
 have qb2:=(congrArg (fun W:World=>W.heap[g_b]?) hTa).symm.trans ((BD _ hn).trans qb)
 generalize hTb:setRow wa g_b _=w2
 obtain ⟨hb2,fb2⟩:=BZ hba hv_b2 qb2 hTb
 replace fa2:=(congrArg (fun W:World=>W.heap[g_a]?) hTb).symm.trans ((BD _ (Ne.symm hn)).trans fa2)
 have g1:=kp hb2 g1
 have g2:=kp hb2 g2
 have HB2:=AA (bB HB1.out hb2)
 clear qa qb qb2 hTa hTb hba hb2 hI hv_a hv_b hv_a2 hv_b2 hu_a hu_b hn
 obtain ⟨ga2,hga2⟩:∃ga,ga=g_a:=⟨_,rfl⟩
 obtain ⟨gb2,hgb2⟩:∃gb,gb=g_b:=⟨_,rfl⟩
 rw [<-hga2] at fa2 ⊢
 rw [<-hgb2] at fb2 ⊢
 clear hga2 hgb2
 clear HB1
 by_cases he:¬x1=y1
 ·have HNE:=AA (show R->False from fun r=>he (congrArg Cm.ok (Eq.mp HR.out r)))
  have n1:(x1== y1)=false:=beq_eq_false_iff_ne.2 he
  have n2:decide (x1=y1)=false:=decide_eq_false he
  clear he
  obtain ⟨u1,u2,u3⟩:=AB fa2
  obtain ⟨v1,v2,v3⟩:=AB fb2
  go_wp2_with fail
  clear u1 u2 u3 v1 v2 v3
  refine Abs.wp_region_abs (Abs.cls _ (fun _=>False)) [0,1,2,3,4,5,6,7] (by kernel_rfl) (by kernel_rfl) (Below.refl _ _).drew ?_
  (refine Abs.step_pure rfl rfl (fun K hK=>?_);go_simp;(try go_bits);(first|refine hK _ _ ?_|(simp only [↓IntWalk.iteOmega];go_simp;(try go_bits);refine hK _ _ ?_));clear hK K)
  (refine Abs.step_late (v:=?_) rfl rfl (fun w0 hI=>?_) (fun K hK=>?_);rotate_left;(· have z0:=(AB (A7 hI (fa2))).1;have z1:=(AB (A7 hI (fb2))).1;go_simp;rfl);(simp only [Act.put,lA1,lZ1,lS1];refine hK _ _ ?_;clear hK K))
  (refine Abs.step_pure rfl rfl (fun K hK=>?_);go_simp;(try go_bits);(first|refine hK _ _ ?_|(simp only [↓IntWalk.iteOmega];go_simp;(try go_bits);refine hK _ _ ?_));clear hK K)
  (refine Abs.step_late (v:=?_) rfl rfl (fun w0 hI=>?_) (fun K hK=>?_);rotate_left;(· have z0:=(AB (A7 hI (fa2))).1;have z1:=(AB (A7 hI (fb2))).1;go_simp;rfl);(simp only [Act.put,lA1,lZ1,lS1];refine hK _ _ ?_;clear hK K))
  (refine Abs.step_new (f:=fun g=>.pointer (some ⟨g,0,none⟩)) (obj:=?_) rfl rfl rfl rfl (fun w0=>?_) (fun K hK g_a hv_a hu_a=>?_);rotate_left;(· go_simp;rfl);(simp only [Act.put,lA1,lZ1,lS1];refine hK _ _ ?_;clear hK K))
  (refine Abs.step_new (f:=fun g=>.pointer (some ⟨g,0,none⟩)) (obj:=?_) rfl rfl rfl rfl (fun w0=>?_) (fun K hK g_b hv_b hu_b=>?_);rotate_left;(· go_simp;rfl);(simp only [Act.put,lA1,lZ1,lS1];refine hK _ _ ?_;clear hK K))
  have hn:g_b≠g_a:=fun e=>hu_b (Or.inl e)
  (refine Abs.step_store (T:=fun w0=>setRow w0 g_a #[.int .i64 x2,.string x3,.int .i64 x4,.int .i64 x5,.int .i64 x6,.slice A pn ac]) rfl rfl rfl (fun w0 hI hF hU=>?_) (fun w0 hI hU hJ=>BY hJ hv_a _) (fun K hK=>?_);(· simp only [Abs.T_setF,Abs.T_addA,Abs.T_push,Abs.T_start];exact BJ rfl rfl rfl ((hF 4).1.2 rfl) AY rfl (by simp [Value.oneCell']));(simp only [Act.put,lA1,lZ1,lS1];refine hK _ _ ?_;clear hK K))
  (refine Abs.step_store (T:=fun w0=>setRow (setRow w0 g_a #[.int .i64 x2,.string x3,.int .i64 x4,.int .i64 x5,.int .i64 x6,.slice A pn ac]) g_b #[.int .i64 y2,.string y3,.int .i64 y4,.int .i64 y5,.int .i64 y6,.slice A2 qn ac2]) rfl rfl rfl (fun w0 hI hF hU=>?_) (fun w0 hI hU hJ=>BY hJ hv_b _) (fun K hK=>?_);(· simp only [Abs.T_setF,Abs.T_addA,Abs.T_push,Abs.T_start];exact BJ rfl rfl rfl (((BD _ hn).trans ((hF 5).2 rfl))) AY rfl (by simp [Value.oneCell']));(simp only [Act.put,lA1,lZ1,lS1];refine hK _ _ ?_;clear hK K))
  intro w0 hI hF hx1 hx2
  have qa:=(hF 4).1.2 rfl
  have qb:=(hF 5).2 rfl
  clear hx1 hx2 hF
  simp only [Abs.T_setF,Abs.T_addA,Abs.T_push,Abs.T_start]
  have hv_a2:w2.heap.size<=g_a:=hv_a
  have hv_b2:w2.heap.size<=g_b:=hv_b
  generalize hTa:setRow w0 g_a _=wa
  obtain ⟨hba,fa3⟩:=BZ hI hv_a2 qa hTa
  have qb2:=(congrArg (fun W:World=>W.heap[g_b]?) hTa).symm.trans ((BD _ hn).trans qb)
  generalize hTb:setRow wa g_b _=w3
  obtain ⟨hb3,fb3⟩:=BZ hba hv_b2 qb2 hTb
  replace fa3:=(congrArg (fun W:World=>W.heap[g_a]?) hTb).symm.trans ((BD _ (Ne.symm hn)).trans fa3)
  have g1:=kp hb3 g1
  have g2:=kp hb3 g2
  have HB3:=AA (bB HB2.out hb3)
  clear qa qb qb2 hTa hTb hba hb3 hI hv_a hv_b hv_a2 hv_b2 hu_a hu_b hn
  obtain ⟨ga3,hga3⟩:∃ga,ga=g_a:=⟨_,rfl⟩
  obtain ⟨gb3,hgb3⟩:∃gb,gb=g_b:=⟨_,rfl⟩
  rw [<-hga3] at fa3 ⊢
  rw [<-hgb3] at fb3 ⊢
  clear hga3 hgb3
  go_wp2_with fail
  go_ret
  exact ⟨_,rfl,⟨(fun h=>by cases h),fun h=>(HNE.out h).elim⟩,HB3.out⟩
 replace he:=Classical.not_not.1 he
 subst he
 by_cases he:¬x7=y7
 ·have HNE:=AA (show R->False from fun r=>he (congrArg Cm.qk (Eq.mp HR.out r)))
  have n1:(x7== y7)=false:=beq_eq_false_iff_ne.2 he
  have n2:decide (x7=y7)=false:=decide_eq_false he
  clear he
  obtain ⟨u1,u2,u3⟩:=AB fa2
  obtain ⟨v1,v2,v3⟩:=AB fb2
  go_wp2_with fail
  clear u1 u2 u3 v1 v2 v3
  refine Abs.wp_region_abs (Abs.cls _ (fun _=>False)) [0,1,2,3,4,5,6,7] (by kernel_rfl) (by kernel_rfl) (Below.refl _ _).drew ?_
  (refine Abs.step_pure rfl rfl (fun K hK=>?_);go_simp;(try go_bits);(first|refine hK _ _ ?_|(simp only [↓IntWalk.iteOmega];go_simp;(try go_bits);refine hK _ _ ?_));clear hK K)
  (refine Abs.step_late (v:=?_) rfl rfl (fun w0 hI=>?_) (fun K hK=>?_);rotate_left;(· have z0:=(AB (A7 hI (fa2))).1;have z1:=(AB (A7 hI (fb2))).1;go_simp;rfl);(simp only [Act.put,lA1,lZ1,lS1];refine hK _ _ ?_;clear hK K))
  (refine Abs.step_pure rfl rfl (fun K hK=>?_);go_simp;(try go_bits);(first|refine hK _ _ ?_|(simp only [↓IntWalk.iteOmega];go_simp;(try go_bits);refine hK _ _ ?_));clear hK K)
  (refine Abs.step_late (v:=?_) rfl rfl (fun w0 hI=>?_) (fun K hK=>?_);rotate_left;(· have z0:=(AB (A7 hI (fa2))).1;have z1:=(AB (A7 hI (fb2))).1;go_simp;rfl);(simp only [Act.put,lA1,lZ1,lS1];refine hK _ _ ?_;clear hK K))
  (refine Abs.step_new (f:=fun g=>.pointer (some ⟨g,0,none⟩)) (obj:=?_) rfl rfl rfl rfl (fun w0=>?_) (fun K hK g_a hv_a hu_a=>?_);rotate_left;(· go_simp;rfl);(simp only [Act.put,lA1,lZ1,lS1];refine hK _ _ ?_;clear hK K))
  (refine Abs.step_new (f:=fun g=>.pointer (some ⟨g,0,none⟩)) (obj:=?_) rfl rfl rfl rfl (fun w0=>?_) (fun K hK g_b hv_b hu_b=>?_);rotate_left;(· go_simp;rfl);(simp only [Act.put,lA1,lZ1,lS1];refine hK _ _ ?_;clear hK K))
  have hn:g_b≠g_a:=fun e=>hu_b (Or.inl e)
  (refine Abs.step_store (T:=fun w0=>setRow w0 g_a #[.int .i64 x2,.string x3,.int .i64 x4,.int .i64 x5,.int .i64 x6,.slice A pn ac]) rfl rfl rfl (fun w0 hI hF hU=>?_) (fun w0 hI hU hJ=>BY hJ hv_a _) (fun K hK=>?_);(· simp only [Abs.T_setF,Abs.T_addA,Abs.T_push,Abs.T_start];exact BJ rfl rfl rfl ((hF 4).1.2 rfl) AY rfl (by simp [Value.oneCell']));(simp only [Act.put,lA1,lZ1,lS1];refine hK _ _ ?_;clear hK K))
  (refine Abs.step_store (T:=fun w0=>setRow (setRow w0 g_a #[.int .i64 x2,.string x3,.int .i64 x4,.int .i64 x5,.int .i64 x6,.slice A pn ac]) g_b #[.int .i64 y2,.string y3,.int .i64 y4,.int .i64 y5,.int .i64 y6,.slice A2 qn ac2]) rfl rfl rfl (fun w0 hI hF hU=>?_) (fun w0 hI hU hJ=>BY hJ hv_b _) (fun K hK=>?_);(· simp only [Abs.T_setF,Abs.T_addA,Abs.T_push,Abs.T_start];exact BJ rfl rfl rfl (((BD _ hn).trans ((hF 5).2 rfl))) AY rfl (by simp [Value.oneCell']));(simp only [Act.put,lA1,lZ1,lS1];refine hK _ _ ?_;clear hK K))
  intro w0 hI hF hx1 hx2
  have qa:=(hF 4).1.2 rfl
  have qb:=(hF 5).2 rfl
  clear hx1 hx2 hF
  simp only [Abs.T_setF,Abs.T_addA,Abs.T_push,Abs.T_start]
  have hv_a2:w2.heap.size<=g_a:=hv_a
  have hv_b2:w2.heap.size<=g_b:=hv_b
  generalize hTa:setRow w0 g_a _=wa
  obtain ⟨hba,fa3⟩:=BZ hI hv_a2 qa hTa
  have qb2:=(congrArg (fun W:World=>W.heap[g_b]?) hTa).symm.trans ((BD _ hn).trans qb)
  generalize hTb:setRow wa g_b _=w3
  obtain ⟨hb3,fb3⟩:=BZ hba hv_b2 qb2 hTb
  replace fa3:=(congrArg (fun W:World=>W.heap[g_a]?) hTb).symm.trans ((BD _ (Ne.symm hn)).trans fa3)
  have g1:=kp hb3 g1
  have g2:=kp hb3 g2
  have HB3:=AA (bB HB2.out hb3)
  clear qa qb qb2 hTa hTb hba hb3 hI hv_a hv_b hv_a2 hv_b2 hu_a hu_b hn
  obtain ⟨ga3,hga3⟩:∃ga,ga=g_a:=⟨_,rfl⟩
  obtain ⟨gb3,hgb3⟩:∃gb,gb=g_b:=⟨_,rfl⟩
  rw [<-hga3] at fa3 ⊢
  rw [<-hgb3] at fb3 ⊢
  clear hga3 hgb3
  go_wp2_with fail
  go_ret
  exact ⟨_,rfl,⟨(fun h=>by cases h),fun h=>(HNE.out h).elim⟩,HB3.out⟩
 replace he:=Classical.not_not.1 he
 subst he
 by_cases he:¬x8=y8
 ·have HNE:=AA (show R->False from fun r=>he (congrArg Cm.qn (Eq.mp HR.out r)))
  have n1:(x8.toList== y8.toList)=false:=eqF he
  clear he
  obtain ⟨u1,u2,u3⟩:=AB fa2
  obtain ⟨v1,v2,v3⟩:=AB fb2
  go_wp2_with fail
  clear u1 u2 u3 v1 v2 v3
  refine Abs.wp_region_abs (Abs.cls _ (fun _=>False)) [0,1,2,3,4,5,6,7] (by kernel_rfl) (by kernel_rfl) (Below.refl _ _).drew ?_
  (refine Abs.step_pure rfl rfl (fun K hK=>?_);go_simp;(try go_bits);(first|refine hK _ _ ?_|(simp only [↓IntWalk.iteOmega];go_simp;(try go_bits);refine hK _ _ ?_));clear hK K)
  (refine Abs.step_late (v:=?_) rfl rfl (fun w0 hI=>?_) (fun K hK=>?_);rotate_left;(· have z0:=(AB (A7 hI (fa2))).1;have z1:=(AB (A7 hI (fb2))).1;go_simp;rfl);(simp only [Act.put,lA1,lZ1,lS1];refine hK _ _ ?_;clear hK K))
  (refine Abs.step_pure rfl rfl (fun K hK=>?_);go_simp;(try go_bits);(first|refine hK _ _ ?_|(simp only [↓IntWalk.iteOmega];go_simp;(try go_bits);refine hK _ _ ?_));clear hK K)
  (refine Abs.step_late (v:=?_) rfl rfl (fun w0 hI=>?_) (fun K hK=>?_);rotate_left;(· have z0:=(AB (A7 hI (fa2))).1;have z1:=(AB (A7 hI (fb2))).1;go_simp;rfl);(simp only [Act.put,lA1,lZ1,lS1];refine hK _ _ ?_;clear hK K))
  (refine Abs.step_new (f:=fun g=>.pointer (some ⟨g,0,none⟩)) (obj:=?_) rfl rfl rfl rfl (fun w0=>?_) (fun K hK g_a hv_a hu_a=>?_);rotate_left;(· go_simp;rfl);(simp only [Act.put,lA1,lZ1,lS1];refine hK _ _ ?_;clear hK K))
  (refine Abs.step_new (f:=fun g=>.pointer (some ⟨g,0,none⟩)) (obj:=?_) rfl rfl rfl rfl (fun w0=>?_) (fun K hK g_b hv_b hu_b=>?_);rotate_left;(· go_simp;rfl);(simp only [Act.put,lA1,lZ1,lS1];refine hK _ _ ?_;clear hK K))
  have hn:g_b≠g_a:=fun e=>hu_b (Or.inl e)
  (refine Abs.step_store (T:=fun w0=>setRow w0 g_a #[.int .i64 x2,.string x3,.int .i64 x4,.int .i64 x5,.int .i64 x6,.slice A pn ac]) rfl rfl rfl (fun w0 hI hF hU=>?_) (fun w0 hI hU hJ=>BY hJ hv_a _) (fun K hK=>?_);(· simp only [Abs.T_setF,Abs.T_addA,Abs.T_push,Abs.T_start];exact BJ rfl rfl rfl ((hF 4).1.2 rfl) AY rfl (by simp [Value.oneCell']));(simp only [Act.put,lA1,lZ1,lS1];refine hK _ _ ?_;clear hK K))
  (refine Abs.step_store (T:=fun w0=>setRow (setRow w0 g_a #[.int .i64 x2,.string x3,.int .i64 x4,.int .i64 x5,.int .i64 x6,.slice A pn ac]) g_b #[.int .i64 y2,.string y3,.int .i64 y4,.int .i64 y5,.int .i64 y6,.slice A2 qn ac2]) rfl rfl rfl (fun w0 hI hF hU=>?_) (fun w0 hI hU hJ=>BY hJ hv_b _) (fun K hK=>?_);(· simp only [Abs.T_setF,Abs.T_addA,Abs.T_push,Abs.T_start];exact BJ rfl rfl rfl (((BD _ hn).trans ((hF 5).2 rfl))) AY rfl (by simp [Value.oneCell']));(simp only [Act.put,lA1,lZ1,lS1];refine hK _ _ ?_;clear hK K))
  intro w0 hI hF hx1 hx2
  have qa:=(hF 4).1.2 rfl
  have qb:=(hF 5).2 rfl
  clear hx1 hx2 hF
  simp only [Abs.T_setF,Abs.T_addA,Abs.T_push,Abs.T_start]
  have hv_a2:w2.heap.size<=g_a:=hv_a
  have hv_b2:w2.heap.size<=g_b:=hv_b
  generalize hTa:setRow w0 g_a _=wa
  obtain ⟨hba,fa3⟩:=BZ hI hv_a2 qa hTa
  have qb2:=(congrArg (fun W:World=>W.heap[g_b]?) hTa).symm.trans ((BD _ hn).trans qb)
  generalize hTb:setRow wa g_b _=w3
  obtain ⟨hb3,fb3⟩:=BZ hba hv_b2 qb2 hTb
  replace fa3:=(congrArg (fun W:World=>W.heap[g_a]?) hTb).symm.trans ((BD _ (Ne.symm hn)).trans fa3)
  have g1:=kp hb3 g1
  have g2:=kp hb3 g2
  have HB3:=AA (bB HB2.out hb3)
  clear qa qb qb2 hTa hTb hba hb3 hI hv_a hv_b hv_a2 hv_b2 hu_a hu_b hn
  obtain ⟨ga3,hga3⟩:∃ga,ga=g_a:=⟨_,rfl⟩
  obtain ⟨gb3,hgb3⟩:∃gb,gb=g_b:=⟨_,rfl⟩
  rw [<-hga3] at fa3 ⊢
  rw [<-hgb3] at fb3 ⊢
  clear hga3 hgb3
  go_wp2_with fail
  go_ret
  exact ⟨_,rfl,⟨(fun h=>by cases h),fun h=>(HNE.out h).elim⟩,HB3.out⟩
 replace he:=Classical.not_not.1 he
 subst he
 by_cases he:¬x9=y9
 ·have HNE:=AA (show R->False from fun r=>he (congrArg Cm.qa (Eq.mp HR.out r)))
  have n1:(x9== y9)=false:=beq_eq_false_iff_ne.2 he
  have n2:decide (x9=y9)=false:=decide_eq_false he
  clear he
  obtain ⟨u1,u2,u3⟩:=AB fa2
  obtain ⟨v1,v2,v3⟩:=AB fb2
  go_wp2_with fail
  clear u1 u2 u3 v1 v2 v3
  refine Abs.wp_region_abs (Abs.cls _ (fun _=>False)) [0,1,2,3,4,5,6,7] (by kernel_rfl) (by kernel_rfl) (Below.refl _ _).drew ?_
  (refine Abs.step_pure rfl rfl (fun K hK=>?_);go_simp;(try go_bits);(first|refine hK _ _ ?_|(simp only [↓IntWalk.iteOmega];go_simp;(try go_bits);refine hK _ _ ?_));clear hK K)
  (refine Abs.step_late (v:=?_) rfl rfl (fun w0 hI=>?_) (fun K hK=>?_);rotate_left;(· have z0:=(AB (A7 hI (fa2))).1;have z1:=(AB (A7 hI (fb2))).1;go_simp;rfl);(simp only [Act.put,lA1,lZ1,lS1];refine hK _ _ ?_;clear hK K))
  (refine Abs.step_pure rfl rfl (fun K hK=>?_);go_simp;(try go_bits);(first|refine hK _ _ ?_|(simp only [↓IntWalk.iteOmega];go_simp;(try go_bits);refine hK _ _ ?_));clear hK K)
  (refine Abs.step_late (v:=?_) rfl rfl (fun w0 hI=>?_) (fun K hK=>?_);rotate_left;(· have z0:=(AB (A7 hI (fa2))).1;have z1:=(AB (A7 hI (fb2))).1;go_simp;rfl);(simp only [Act.put,lA1,lZ1,lS1];refine hK _ _ ?_;clear hK K))
  (refine Abs.step_new (f:=fun g=>.pointer (some ⟨g,0,none⟩)) (obj:=?_) rfl rfl rfl rfl (fun w0=>?_) (fun K hK g_a hv_a hu_a=>?_);rotate_left;(· go_simp;rfl);(simp only [Act.put,lA1,lZ1,lS1];refine hK _ _ ?_;clear hK K))
  (refine Abs.step_new (f:=fun g=>.pointer (some ⟨g,0,none⟩)) (obj:=?_) rfl rfl rfl rfl (fun w0=>?_) (fun K hK g_b hv_b hu_b=>?_);rotate_left;(· go_simp;rfl);(simp only [Act.put,lA1,lZ1,lS1];refine hK _ _ ?_;clear hK K))
  have hn:g_b≠g_a:=fun e=>hu_b (Or.inl e)
  (refine Abs.step_store (T:=fun w0=>setRow w0 g_a #[.int .i64 x2,.string x3,.int .i64 x4,.int .i64 x5,.int .i64 x6,.slice A pn ac]) rfl rfl rfl (fun w0 hI hF hU=>?_) (fun w0 hI hU hJ=>BY hJ hv_a _) (fun K hK=>?_);(· simp only [Abs.T_setF,Abs.T_addA,Abs.T_push,Abs.T_start];exact BJ rfl rfl rfl ((hF 4).1.2 rfl) AY rfl (by simp [Value.oneCell']));(simp only [Act.put,lA1,lZ1,lS1];refine hK _ _ ?_;clear hK K))
  (refine Abs.step_store (T:=fun w0=>setRow (setRow w0 g_a #[.int .i64 x2,.string x3,.int .i64 x4,.int .i64 x5,.int .i64 x6,.slice A pn ac]) g_b #[.int .i64 y2,.string y3,.int .i64 y4,.int .i64 y5,.int .i64 y6,.slice A2 qn ac2]) rfl rfl rfl (fun w0 hI hF hU=>?_) (fun w0 hI hU hJ=>BY hJ hv_b _) (fun K hK=>?_);(· simp only [Abs.T_setF,Abs.T_addA,Abs.T_push,Abs.T_start];exact BJ rfl rfl rfl (((BD _ hn).trans ((hF 5).2 rfl))) AY rfl (by simp [Value.oneCell']));(simp only [Act.put,lA1,lZ1,lS1];refine hK _ _ ?_;clear hK K))
  intro w0 hI hF hx1 hx2
  have qa:=(hF 4).1.2 rfl
  have qb:=(hF 5).2 rfl
  clear hx1 hx2 hF
  simp only [Abs.T_setF,Abs.T_addA,Abs.T_push,Abs.T_start]
  have hv_a2:w2.heap.size<=g_a:=hv_a
  have hv_b2:w2.heap.size<=g_b:=hv_b
  generalize hTa:setRow w0 g_a _=wa
  obtain ⟨hba,fa3⟩:=BZ hI hv_a2 qa hTa
  have qb2:=(congrArg (fun W:World=>W.heap[g_b]?) hTa).symm.trans ((BD _ hn).trans qb)
  generalize hTb:setRow wa g_b _=w3
  obtain ⟨hb3,fb3⟩:=BZ hba hv_b2 qb2 hTb
  replace fa3:=(congrArg (fun W:World=>W.heap[g_a]?) hTb).symm.trans ((BD _ (Ne.symm hn)).trans fa3)
  have g1:=kp hb3 g1
  have g2:=kp hb3 g2
  have HB3:=AA (bB HB2.out hb3)
  clear qa qb qb2 hTa hTb hba hb3 hI hv_a hv_b hv_a2 hv_b2 hu_a hu_b hn
  obtain ⟨ga3,hga3⟩:∃ga,ga=g_a:=⟨_,rfl⟩
  obtain ⟨gb3,hgb3⟩:∃gb,gb=g_b:=⟨_,rfl⟩
  rw [<-hga3] at fa3 ⊢
  rw [<-hgb3] at fb3 ⊢
  clear hga3 hgb3
  go_wp2_with fail
  go_ret
  exact ⟨_,rfl,⟨(fun h=>by cases h),fun h=>(HNE.out h).elim⟩,HB3.out⟩
 replace he:=Classical.not_not.1 he
 subst he
 by_cases he:¬x10=y10
 ·have HNE:=AA (show R->False from fun r=>he (congrArg Cm.qb (Eq.mp HR.out r)))
  have n1:(x10== y10)=false:=beq_eq_false_iff_ne.2 he
  have n2:decide (x10=y10)=false:=decide_eq_false he
  clear he
  obtain ⟨u1,u2,u3⟩:=AB fa2
  obtain ⟨v1,v2,v3⟩:=AB fb2
  go_wp2_with fail
  clear u1 u2 u3 v1 v2 v3
  refine Abs.wp_region_abs (Abs.cls _ (fun _=>False)) [0,1,2,3,4,5,6,7] (by kernel_rfl) (by kernel_rfl) (Below.refl _ _).drew ?_
  (refine Abs.step_pure rfl rfl (fun K hK=>?_);go_simp;(try go_bits);(first|refine hK _ _ ?_|(simp only [↓IntWalk.iteOmega];go_simp;(try go_bits);refine hK _ _ ?_));clear hK K)
  (refine Abs.step_late (v:=?_) rfl rfl (fun w0 hI=>?_) (fun K hK=>?_);rotate_left;(· have z0:=(AB (A7 hI (fa2))).1;have z1:=(AB (A7 hI (fb2))).1;go_simp;rfl);(simp only [Act.put,lA1,lZ1,lS1];refine hK _ _ ?_;clear hK K))
  (refine Abs.step_pure rfl rfl (fun K hK=>?_);go_simp;(try go_bits);(first|refine hK _ _ ?_|(simp only [↓IntWalk.iteOmega];go_simp;(try go_bits);refine hK _ _ ?_));clear hK K)
  (refine Abs.step_late (v:=?_) rfl rfl (fun w0 hI=>?_) (fun K hK=>?_);rotate_left;(· have z0:=(AB (A7 hI (fa2))).1;have z1:=(AB (A7 hI (fb2))).1;go_simp;rfl);(simp only [Act.put,lA1,lZ1,lS1];refine hK _ _ ?_;clear hK K))
  (refine Abs.step_new (f:=fun g=>.pointer (some ⟨g,0,none⟩)) (obj:=?_) rfl rfl rfl rfl (fun w0=>?_) (fun K hK g_a hv_a hu_a=>?_);rotate_left;(· go_simp;rfl);(simp only [Act.put,lA1,lZ1,lS1];refine hK _ _ ?_;clear hK K))
  (refine Abs.step_new (f:=fun g=>.pointer (some ⟨g,0,none⟩)) (obj:=?_) rfl rfl rfl rfl (fun w0=>?_) (fun K hK g_b hv_b hu_b=>?_);rotate_left;(· go_simp;rfl);(simp only [Act.put,lA1,lZ1,lS1];refine hK _ _ ?_;clear hK K))
  have hn:g_b≠g_a:=fun e=>hu_b (Or.inl e)
  (refine Abs.step_store (T:=fun w0=>setRow w0 g_a #[.int .i64 x2,.string x3,.int .i64 x4,.int .i64 x5,.int .i64 x6,.slice A pn ac]) rfl rfl rfl (fun w0 hI hF hU=>?_) (fun w0 hI hU hJ=>BY hJ hv_a _) (fun K hK=>?_);(· simp only [Abs.T_setF,Abs.T_addA,Abs.T_push,Abs.T_start];exact BJ rfl rfl rfl ((hF 4).1.2 rfl) AY rfl (by simp [Value.oneCell']));(simp only [Act.put,lA1,lZ1,lS1];refine hK _ _ ?_;clear hK K))
  (refine Abs.step_store (T:=fun w0=>setRow (setRow w0 g_a #[.int .i64 x2,.string x3,.int .i64 x4,.int .i64 x5,.int .i64 x6,.slice A pn ac]) g_b #[.int .i64 y2,.string y3,.int .i64 y4,.int .i64 y5,.int .i64 y6,.slice A2 qn ac2]) rfl rfl rfl (fun w0 hI hF hU=>?_) (fun w0 hI hU hJ=>BY hJ hv_b _) (fun K hK=>?_);(· simp only [Abs.T_setF,Abs.T_addA,Abs.T_push,Abs.T_start];exact BJ rfl rfl rfl (((BD _ hn).trans ((hF 5).2 rfl))) AY rfl (by simp [Value.oneCell']));(simp only [Act.put,lA1,lZ1,lS1];refine hK _ _ ?_;clear hK K))
  intro w0 hI hF hx1 hx2
  have qa:=(hF 4).1.2 rfl
  have qb:=(hF 5).2 rfl
  clear hx1 hx2 hF
  simp only [Abs.T_setF,Abs.T_addA,Abs.T_push,Abs.T_start]
  have hv_a2:w2.heap.size<=g_a:=hv_a
  have hv_b2:w2.heap.size<=g_b:=hv_b
  generalize hTa:setRow w0 g_a _=wa
  obtain ⟨hba,fa3⟩:=BZ hI hv_a2 qa hTa
  have qb2:=(congrArg (fun W:World=>W.heap[g_b]?) hTa).symm.trans ((BD _ hn).trans qb)
  generalize hTb:setRow wa g_b _=w3
  obtain ⟨hb3,fb3⟩:=BZ hba hv_b2 qb2 hTb
  replace fa3:=(congrArg (fun W:World=>W.heap[g_a]?) hTb).symm.trans ((BD _ (Ne.symm hn)).trans fa3)
  have g1:=kp hb3 g1
  have g2:=kp hb3 g2
  have HB3:=AA (bB HB2.out hb3)
  clear qa qb qb2 hTa hTb hba hb3 hI hv_a hv_b hv_a2 hv_b2 hu_a hu_b hn
  obtain ⟨ga3,hga3⟩:∃ga,ga=g_a:=⟨_,rfl⟩
  obtain ⟨gb3,hgb3⟩:∃gb,gb=g_b:=⟨_,rfl⟩
  rw [<-hga3] at fa3 ⊢
  rw [<-hgb3] at fb3 ⊢
  clear hga3 hgb3
  go_wp2_with fail
  go_ret
  exact ⟨_,rfl,⟨(fun h=>by cases h),fun h=>(HNE.out h).elim⟩,HB3.out⟩
 replace he:=Classical.not_not.1 he
 subst he
 by_cases he:¬x11=y11
 ·have HNE:=AA (show R->False from fun r=>he (congrArg Cm.qw (Eq.mp HR.out r)))
  have n1:(x11== y11)=false:=beq_eq_false_iff_ne.2 he
  have n2:decide (x11=y11)=false:=decide_eq_false he
  clear he
  obtain ⟨u1,u2,u3⟩:=AB fa2
  obtain ⟨v1,v2,v3⟩:=AB fb2
  go_wp2_with fail
  clear u1 u2 u3 v1 v2 v3
  refine Abs.wp_region_abs (Abs.cls _ (fun _=>False)) [0,1,2,3,4,5,6,7] (by kernel_rfl) (by kernel_rfl) (Below.refl _ _).drew ?_
  (refine Abs.step_pure rfl rfl (fun K hK=>?_);go_simp;(try go_bits);(first|refine hK _ _ ?_|(simp only [↓IntWalk.iteOmega];go_simp;(try go_bits);refine hK _ _ ?_));clear hK K)
  (refine Abs.step_late (v:=?_) rfl rfl (fun w0 hI=>?_) (fun K hK=>?_);rotate_left;(· have z0:=(AB (A7 hI (fa2))).1;have z1:=(AB (A7 hI (fb2))).1;go_simp;rfl);(simp only [Act.put,lA1,lZ1,lS1];refine hK _ _ ?_;clear hK K))
  (refine Abs.step_pure rfl rfl (fun K hK=>?_);go_simp;(try go_bits);(first|refine hK _ _ ?_|(simp only [↓IntWalk.iteOmega];go_simp;(try go_bits);refine hK _ _ ?_));clear hK K)
  (refine Abs.step_late (v:=?_) rfl rfl (fun w0 hI=>?_) (fun K hK=>?_);rotate_left;(· have z0:=(AB (A7 hI (fa2))).1;have z1:=(AB (A7 hI (fb2))).1;go_simp;rfl);(simp only [Act.put,lA1,lZ1,lS1];refine hK _ _ ?_;clear hK K))
  (refine Abs.step_new (f:=fun g=>.pointer (some ⟨g,0,none⟩)) (obj:=?_) rfl rfl rfl rfl (fun w0=>?_) (fun K hK g_a hv_a hu_a=>?_);rotate_left;(· go_simp;rfl);(simp only [Act.put,lA1,lZ1,lS1];refine hK _ _ ?_;clear hK K))
  (refine Abs.step_new (f:=fun g=>.pointer (some ⟨g,0,none⟩)) (obj:=?_) rfl rfl rfl rfl (fun w0=>?_) (fun K hK g_b hv_b hu_b=>?_);rotate_left;(· go_simp;rfl);(simp only [Act.put,lA1,lZ1,lS1];refine hK _ _ ?_;clear hK K))
  have hn:g_b≠g_a:=fun e=>hu_b (Or.inl e)
  (refine Abs.step_store (T:=fun w0=>setRow w0 g_a #[.int .i64 x2,.string x3,.int .i64 x4,.int .i64 x5,.int .i64 x6,.slice A pn ac]) rfl rfl rfl (fun w0 hI hF hU=>?_) (fun w0 hI hU hJ=>BY hJ hv_a _) (fun K hK=>?_);(· simp only [Abs.T_setF,Abs.T_addA,Abs.T_push,Abs.T_start];exact BJ rfl rfl rfl ((hF 4).1.2 rfl) AY rfl (by simp [Value.oneCell']));(simp only [Act.put,lA1,lZ1,lS1];refine hK _ _ ?_;clear hK K))
  (refine Abs.step_store (T:=fun w0=>setRow (setRow w0 g_a #[.int .i64 x2,.string x3,.int .i64 x4,.int .i64 x5,.int .i64 x6,.slice A pn ac]) g_b #[.int .i64 y2,.string y3,.int .i64 y4,.int .i64 y5,.int .i64 y6,.slice A2 qn ac2]) rfl rfl rfl (fun w0 hI hF hU=>?_) (fun w0 hI hU hJ=>BY hJ hv_b _) (fun K hK=>?_);(· simp only [Abs.T_setF,Abs.T_addA,Abs.T_push,Abs.T_start];exact BJ rfl rfl rfl (((BD _ hn).trans ((hF 5).2 rfl))) AY rfl (by simp [Value.oneCell']));(simp only [Act.put,lA1,lZ1,lS1];refine hK _ _ ?_;clear hK K))
  intro w0 hI hF hx1 hx2
  have qa:=(hF 4).1.2 rfl
  have qb:=(hF 5).2 rfl
  clear hx1 hx2 hF
  simp only [Abs.T_setF,Abs.T_addA,Abs.T_push,Abs.T_start]
  have hv_a2:w2.heap.size<=g_a:=hv_a
  have hv_b2:w2.heap.size<=g_b:=hv_b
  generalize hTa:setRow w0 g_a _=wa
  obtain ⟨hba,fa3⟩:=BZ hI hv_a2 qa hTa
  have qb2:=(congrArg (fun W:World=>W.heap[g_b]?) hTa).symm.trans ((BD _ hn).trans qb)
  generalize hTb:setRow wa g_b _=w3
  obtain ⟨hb3,fb3⟩:=BZ hba hv_b2 qb2 hTb
  replace fa3:=(congrArg (fun W:World=>W.heap[g_a]?) hTb).symm.trans ((BD _ (Ne.symm hn)).trans fa3)
  have g1:=kp hb3 g1
  have g2:=kp hb3 g2
  have HB3:=AA (bB HB2.out hb3)
  clear qa qb qb2 hTa hTb hba hb3 hI hv_a hv_b hv_a2 hv_b2 hu_a hu_b hn
  obtain ⟨ga3,hga3⟩:∃ga,ga=g_a:=⟨_,rfl⟩
  obtain ⟨gb3,hgb3⟩:∃gb,gb=g_b:=⟨_,rfl⟩
  rw [<-hga3] at fa3 ⊢
  rw [<-hgb3] at fb3 ⊢
  clear hga3 hgb3
  go_wp2_with fail
  go_ret
  exact ⟨_,rfl,⟨(fun h=>by cases h),fun h=>(HNE.out h).elim⟩,HB3.out⟩
 replace he:=Classical.not_not.1 he
 subst he
 by_cases he:¬x12=y12
 ·have HNE:=AA (show R->False from fun r=>he (congrArg Cm.qN (Eq.mp HR.out r)))
  have n1:(x12== y12)=false:=beq_eq_false_iff_ne.2 he
  have n2:decide (x12=y12)=false:=decide_eq_false he
  clear he
  obtain ⟨u1,u2,u3⟩:=AB fa2
  obtain ⟨v1,v2,v3⟩:=AB fb2
  go_wp2_with fail
  clear u1 u2 u3 v1 v2 v3
  refine Abs.wp_region_abs (Abs.cls _ (fun _=>False)) [0,1,2,3,4,5,6,7] (by kernel_rfl) (by kernel_rfl) (Below.refl _ _).drew ?_
  (refine Abs.step_pure rfl rfl (fun K hK=>?_);go_simp;(try go_bits);(first|refine hK _ _ ?_|(simp only [↓IntWalk.iteOmega];go_simp;(try go_bits);refine hK _ _ ?_));clear hK K)
  (refine Abs.step_late (v:=?_) rfl rfl (fun w0 hI=>?_) (fun K hK=>?_);rotate_left;(· have z0:=(AB (A7 hI (fa2))).1;have z1:=(AB (A7 hI (fb2))).1;go_simp;rfl);(simp only [Act.put,lA1,lZ1,lS1];refine hK _ _ ?_;clear hK K))
  (refine Abs.step_pure rfl rfl (fun K hK=>?_);go_simp;(try go_bits);(first|refine hK _ _ ?_|(simp only [↓IntWalk.iteOmega];go_simp;(try go_bits);refine hK _ _ ?_));clear hK K)
  (refine Abs.step_late (v:=?_) rfl rfl (fun w0 hI=>?_) (fun K hK=>?_);rotate_left;(· have z0:=(AB (A7 hI (fa2))).1;have z1:=(AB (A7 hI (fb2))).1;go_simp;rfl);(simp only [Act.put,lA1,lZ1,lS1];refine hK _ _ ?_;clear hK K))
  (refine Abs.step_new (f:=fun g=>.pointer (some ⟨g,0,none⟩)) (obj:=?_) rfl rfl rfl rfl (fun w0=>?_) (fun K hK g_a hv_a hu_a=>?_);rotate_left;(· go_simp;rfl);(simp only [Act.put,lA1,lZ1,lS1];refine hK _ _ ?_;clear hK K))
  (refine Abs.step_new (f:=fun g=>.pointer (some ⟨g,0,none⟩)) (obj:=?_) rfl rfl rfl rfl (fun w0=>?_) (fun K hK g_b hv_b hu_b=>?_);rotate_left;(· go_simp;rfl);(simp only [Act.put,lA1,lZ1,lS1];refine hK _ _ ?_;clear hK K))
  have hn:g_b≠g_a:=fun e=>hu_b (Or.inl e)
  (refine Abs.step_store (T:=fun w0=>setRow w0 g_a #[.int .i64 x2,.string x3,.int .i64 x4,.int .i64 x5,.int .i64 x6,.slice A pn ac]) rfl rfl rfl (fun w0 hI hF hU=>?_) (fun w0 hI hU hJ=>BY hJ hv_a _) (fun K hK=>?_);(· simp only [Abs.T_setF,Abs.T_addA,Abs.T_push,Abs.T_start];exact BJ rfl rfl rfl ((hF 4).1.2 rfl) AY rfl (by simp [Value.oneCell']));(simp only [Act.put,lA1,lZ1,lS1];refine hK _ _ ?_;clear hK K))
  (refine Abs.step_store (T:=fun w0=>setRow (setRow w0 g_a #[.int .i64 x2,.string x3,.int .i64 x4,.int .i64 x5,.int .i64 x6,.slice A pn ac]) g_b #[.int .i64 y2,.string y3,.int .i64 y4,.int .i64 y5,.int .i64 y6,.slice A2 qn ac2]) rfl rfl rfl (fun w0 hI hF hU=>?_) (fun w0 hI hU hJ=>BY hJ hv_b _) (fun K hK=>?_);(· simp only [Abs.T_setF,Abs.T_addA,Abs.T_push,Abs.T_start];exact BJ rfl rfl rfl (((BD _ hn).trans ((hF 5).2 rfl))) AY rfl (by simp [Value.oneCell']));(simp only [Act.put,lA1,lZ1,lS1];refine hK _ _ ?_;clear hK K))
  intro w0 hI hF hx1 hx2
  have qa:=(hF 4).1.2 rfl
  have qb:=(hF 5).2 rfl
  clear hx1 hx2 hF
  simp only [Abs.T_setF,Abs.T_addA,Abs.T_push,Abs.T_start]
  have hv_a2:w2.heap.size<=g_a:=hv_a
  have hv_b2:w2.heap.size<=g_b:=hv_b
  generalize hTa:setRow w0 g_a _=wa
  obtain ⟨hba,fa3⟩:=BZ hI hv_a2 qa hTa
  have qb2:=(congrArg (fun W:World=>W.heap[g_b]?) hTa).symm.trans ((BD _ hn).trans qb)
  generalize hTb:setRow wa g_b _=w3
  obtain ⟨hb3,fb3⟩:=BZ hba hv_b2 qb2 hTb
  replace fa3:=(congrArg (fun W:World=>W.heap[g_a]?) hTb).symm.trans ((BD _ (Ne.symm hn)).trans fa3)
  have g1:=kp hb3 g1
  have g2:=kp hb3 g2
  have HB3:=AA (bB HB2.out hb3)
  clear qa qb qb2 hTa hTb hba hb3 hI hv_a hv_b hv_a2 hv_b2 hu_a hu_b hn
  obtain ⟨ga3,hga3⟩:∃ga,ga=g_a:=⟨_,rfl⟩
  obtain ⟨gb3,hgb3⟩:∃gb,gb=g_b:=⟨_,rfl⟩
  rw [<-hga3] at fa3 ⊢
  rw [<-hgb3] at fb3 ⊢
  clear hga3 hgb3
  go_wp2_with fail
  go_ret
  exact ⟨_,rfl,⟨(fun h=>by cases h),fun h=>(HNE.out h).elim⟩,HB3.out⟩
 replace he:=Classical.not_not.1 he
 subst he
 by_cases he:¬x13=y13
 ·have HNE:=AA (show R->False from fun r=>he (congrArg Cm.nm (Eq.mp HR.out r)))
  have n1:(x13.toList== y13.toList)=false:=eqF he
  clear he
  obtain ⟨u1,u2,u3⟩:=AB fa2
  obtain ⟨v1,v2,v3⟩:=AB fb2
  go_wp2_with fail
  clear u1 u2 u3 v1 v2 v3
  refine Abs.wp_region_abs (Abs.cls _ (fun _=>False)) [0,1,2,3,4,5,6,7] (by kernel_rfl) (by kernel_rfl) (Below.refl _ _).drew ?_
  (refine Abs.step_pure rfl rfl (fun K hK=>?_);go_simp;(try go_bits);(first|refine hK _ _ ?_|(simp only [↓IntWalk.iteOmega];go_simp;(try go_bits);refine hK _ _ ?_));clear hK K)
  (refine Abs.step_late (v:=?_) rfl rfl (fun w0 hI=>?_) (fun K hK=>?_);rotate_left;(· have z0:=(AB (A7 hI (fa2))).1;have z1:=(AB (A7 hI (fb2))).1;go_simp;rfl);(simp only [Act.put,lA1,lZ1,lS1];refine hK _ _ ?_;clear hK K))
  (refine Abs.step_pure rfl rfl (fun K hK=>?_);go_simp;(try go_bits);(first|refine hK _ _ ?_|(simp only [↓IntWalk.iteOmega];go_simp;(try go_bits);refine hK _ _ ?_));clear hK K)
  (refine Abs.step_late (v:=?_) rfl rfl (fun w0 hI=>?_) (fun K hK=>?_);rotate_left;(· have z0:=(AB (A7 hI (fa2))).1;have z1:=(AB (A7 hI (fb2))).1;go_simp;rfl);(simp only [Act.put,lA1,lZ1,lS1];refine hK _ _ ?_;clear hK K))
  (refine Abs.step_new (f:=fun g=>.pointer (some ⟨g,0,none⟩)) (obj:=?_) rfl rfl rfl rfl (fun w0=>?_) (fun K hK g_a hv_a hu_a=>?_);rotate_left;(· go_simp;rfl);(simp only [Act.put,lA1,lZ1,lS1];refine hK _ _ ?_;clear hK K))
  (refine Abs.step_new (f:=fun g=>.pointer (some ⟨g,0,none⟩)) (obj:=?_) rfl rfl rfl rfl (fun w0=>?_) (fun K hK g_b hv_b hu_b=>?_);rotate_left;(· go_simp;rfl);(simp only [Act.put,lA1,lZ1,lS1];refine hK _ _ ?_;clear hK K))
  have hn:g_b≠g_a:=fun e=>hu_b (Or.inl e)
  (refine Abs.step_store (T:=fun w0=>setRow w0 g_a #[.int .i64 x2,.string x3,.int .i64 x4,.int .i64 x5,.int .i64 x6,.slice A pn ac]) rfl rfl rfl (fun w0 hI hF hU=>?_) (fun w0 hI hU hJ=>BY hJ hv_a _) (fun K hK=>?_);(· simp only [Abs.T_setF,Abs.T_addA,Abs.T_push,Abs.T_start];exact BJ rfl rfl rfl ((hF 4).1.2 rfl) AY rfl (by simp [Value.oneCell']));(simp only [Act.put,lA1,lZ1,lS1];refine hK _ _ ?_;clear hK K))
  (refine Abs.step_store (T:=fun w0=>setRow (setRow w0 g_a #[.int .i64 x2,.string x3,.int .i64 x4,.int .i64 x5,.int .i64 x6,.slice A pn ac]) g_b #[.int .i64 y2,.string y3,.int .i64 y4,.int .i64 y5,.int .i64 y6,.slice A2 qn ac2]) rfl rfl rfl (fun w0 hI hF hU=>?_) (fun w0 hI hU hJ=>BY hJ hv_b _) (fun K hK=>?_);(· simp only [Abs.T_setF,Abs.T_addA,Abs.T_push,Abs.T_start];exact BJ rfl rfl rfl (((BD _ hn).trans ((hF 5).2 rfl))) AY rfl (by simp [Value.oneCell']));(simp only [Act.put,lA1,lZ1,lS1];refine hK _ _ ?_;clear hK K))
  intro w0 hI hF hx1 hx2
  have qa:=(hF 4).1.2 rfl
  have qb:=(hF 5).2 rfl
  clear hx1 hx2 hF
  simp only [Abs.T_setF,Abs.T_addA,Abs.T_push,Abs.T_start]
  have hv_a2:w2.heap.size<=g_a:=hv_a
  have hv_b2:w2.heap.size<=g_b:=hv_b
  generalize hTa:setRow w0 g_a _=wa
  obtain ⟨hba,fa3⟩:=BZ hI hv_a2 qa hTa
  have qb2:=(congrArg (fun W:World=>W.heap[g_b]?) hTa).symm.trans ((BD _ hn).trans qb)
  generalize hTb:setRow wa g_b _=w3
  obtain ⟨hb3,fb3⟩:=BZ hba hv_b2 qb2 hTb
  replace fa3:=(congrArg (fun W:World=>W.heap[g_a]?) hTb).symm.trans ((BD _ (Ne.symm hn)).trans fa3)
  have g1:=kp hb3 g1
  have g2:=kp hb3 g2
  have HB3:=AA (bB HB2.out hb3)
  clear qa qb qb2 hTa hTb hba hb3 hI hv_a hv_b hv_a2 hv_b2 hu_a hu_b hn
  obtain ⟨ga3,hga3⟩:∃ga,ga=g_a:=⟨_,rfl⟩
  obtain ⟨gb3,hgb3⟩:∃gb,gb=g_b:=⟨_,rfl⟩
  rw [<-hga3] at fa3 ⊢
  rw [<-hgb3] at fb3 ⊢
  clear hga3 hgb3
  go_wp2_with fail
  go_ret
  exact ⟨_,rfl,⟨(fun h=>by cases h),fun h=>(HNE.out h).elim⟩,HB3.out⟩
 replace he:=Classical.not_not.1 he
 subst he
 by_cases he:¬x14=y14
 ·have HNE:=AA (show R->False from fun r=>he (congrArg Cm.t (Eq.mp HR.out r)))
  have n1:(x14== y14)=false:=beq_eq_false_iff_ne.2 he
  have n2:decide (x14=y14)=false:=decide_eq_false he
  clear he
  obtain ⟨u1,u2,u3⟩:=AB fa2
  obtain ⟨v1,v2,v3⟩:=AB fb2
  go_wp2_with fail
  clear u1 u2 u3 v1 v2 v3
  refine Abs.wp_region_abs (Abs.cls _ (fun _=>False)) [0,1,2,3,4,5,6,7] (by kernel_rfl) (by kernel_rfl) (Below.refl _ _).drew ?_
  (refine Abs.step_pure rfl rfl (fun K hK=>?_);go_simp;(try go_bits);(first|refine hK _ _ ?_|(simp only [↓IntWalk.iteOmega];go_simp;(try go_bits);refine hK _ _ ?_));clear hK K)
  (refine Abs.step_late (v:=?_) rfl rfl (fun w0 hI=>?_) (fun K hK=>?_);rotate_left;(· have z0:=(AB (A7 hI (fa2))).1;have z1:=(AB (A7 hI (fb2))).1;go_simp;rfl);(simp only [Act.put,lA1,lZ1,lS1];refine hK _ _ ?_;clear hK K))
  (refine Abs.step_pure rfl rfl (fun K hK=>?_);go_simp;(try go_bits);(first|refine hK _ _ ?_|(simp only [↓IntWalk.iteOmega];go_simp;(try go_bits);refine hK _ _ ?_));clear hK K)
  (refine Abs.step_late (v:=?_) rfl rfl (fun w0 hI=>?_) (fun K hK=>?_);rotate_left;(· have z0:=(AB (A7 hI (fa2))).1;have z1:=(AB (A7 hI (fb2))).1;go_simp;rfl);(simp only [Act.put,lA1,lZ1,lS1];refine hK _ _ ?_;clear hK K))
  (refine Abs.step_new (f:=fun g=>.pointer (some ⟨g,0,none⟩)) (obj:=?_) rfl rfl rfl rfl (fun w0=>?_) (fun K hK g_a hv_a hu_a=>?_);rotate_left;(· go_simp;rfl);(simp only [Act.put,lA1,lZ1,lS1];refine hK _ _ ?_;clear hK K))
  (refine Abs.step_new (f:=fun g=>.pointer (some ⟨g,0,none⟩)) (obj:=?_) rfl rfl rfl rfl (fun w0=>?_) (fun K hK g_b hv_b hu_b=>?_);rotate_left;(· go_simp;rfl);(simp only [Act.put,lA1,lZ1,lS1];refine hK _ _ ?_;clear hK K))
  have hn:g_b≠g_a:=fun e=>hu_b (Or.inl e)
  (refine Abs.step_store (T:=fun w0=>setRow w0 g_a #[.int .i64 x2,.string x3,.int .i64 x4,.int .i64 x5,.int .i64 x6,.slice A pn ac]) rfl rfl rfl (fun w0 hI hF hU=>?_) (fun w0 hI hU hJ=>BY hJ hv_a _) (fun K hK=>?_);(· simp only [Abs.T_setF,Abs.T_addA,Abs.T_push,Abs.T_start];exact BJ rfl rfl rfl ((hF 4).1.2 rfl) AY rfl (by simp [Value.oneCell']));(simp only [Act.put,lA1,lZ1,lS1];refine hK _ _ ?_;clear hK K))
  (refine Abs.step_store (T:=fun w0=>setRow (setRow w0 g_a #[.int .i64 x2,.string x3,.int .i64 x4,.int .i64 x5,.int .i64 x6,.slice A pn ac]) g_b #[.int .i64 y2,.string y3,.int .i64 y4,.int .i64 y5,.int .i64 y6,.slice A2 qn ac2]) rfl rfl rfl (fun w0 hI hF hU=>?_) (fun w0 hI hU hJ=>BY hJ hv_b _) (fun K hK=>?_);(· simp only [Abs.T_setF,Abs.T_addA,Abs.T_push,Abs.T_start];exact BJ rfl rfl rfl (((BD _ hn).trans ((hF 5).2 rfl))) AY rfl (by simp [Value.oneCell']));(simp only [Act.put,lA1,lZ1,lS1];refine hK _ _ ?_;clear hK K))
  intro w0 hI hF hx1 hx2
  have qa:=(hF 4).1.2 rfl
  have qb:=(hF 5).2 rfl
  clear hx1 hx2 hF
  simp only [Abs.T_setF,Abs.T_addA,Abs.T_push,Abs.T_start]
  have hv_a2:w2.heap.size<=g_a:=hv_a
  have hv_b2:w2.heap.size<=g_b:=hv_b
  generalize hTa:setRow w0 g_a _=wa
  obtain ⟨hba,fa3⟩:=BZ hI hv_a2 qa hTa
  have qb2:=(congrArg (fun W:World=>W.heap[g_b]?) hTa).symm.trans ((BD _ hn).trans qb)
  generalize hTb:setRow wa g_b _=w3
  obtain ⟨hb3,fb3⟩:=BZ hba hv_b2 qb2 hTb
  replace fa3:=(congrArg (fun W:World=>W.heap[g_a]?) hTb).symm.trans ((BD _ (Ne.symm hn)).trans fa3)
  have g1:=kp hb3 g1
  have g2:=kp hb3 g2
  have HB3:=AA (bB HB2.out hb3)
  clear qa qb qb2 hTa hTb hba hb3 hI hv_a hv_b hv_a2 hv_b2 hu_a hu_b hn
  obtain ⟨ga3,hga3⟩:∃ga,ga=g_a:=⟨_,rfl⟩
  obtain ⟨gb3,hgb3⟩:∃gb,gb=g_b:=⟨_,rfl⟩
  rw [<-hga3] at fa3 ⊢
  rw [<-hgb3] at fb3 ⊢
  clear hga3 hgb3
  go_wp2_with fail
  go_ret
  exact ⟨_,rfl,⟨(fun h=>by cases h),fun h=>(HNE.out h).elim⟩,HB3.out⟩
 replace he:=Classical.not_not.1 he
 subst he
 by_cases he:¬x15=y15
 ·have HNE:=AA (show R->False from fun r=>he (congrArg Cm.bits (Eq.mp HR.out r)))
  have n1:(x15== y15)=false:=beq_eq_false_iff_ne.2 he
  have n2:decide (x15=y15)=false:=decide_eq_false he
  clear he
  obtain ⟨u1,u2,u3⟩:=AB fa2
  obtain ⟨v1,v2,v3⟩:=AB fb2
  go_wp2_with fail
  clear u1 u2 u3 v1 v2 v3
  refine Abs.wp_region_abs (Abs.cls _ (fun _=>False)) [0,1,2,3,4,5,6,7] (by kernel_rfl) (by kernel_rfl) (Below.refl _ _).drew ?_
  (refine Abs.step_pure rfl rfl (fun K hK=>?_);go_simp;(try go_bits);(first|refine hK _ _ ?_|(simp only [↓IntWalk.iteOmega];go_simp;(try go_bits);refine hK _ _ ?_));clear hK K)
  (refine Abs.step_late (v:=?_) rfl rfl (fun w0 hI=>?_) (fun K hK=>?_);rotate_left;(· have z0:=(AB (A7 hI (fa2))).1;have z1:=(AB (A7 hI (fb2))).1;go_simp;rfl);(simp only [Act.put,lA1,lZ1,lS1];refine hK _ _ ?_;clear hK K))
  (refine Abs.step_pure rfl rfl (fun K hK=>?_);go_simp;(try go_bits);(first|refine hK _ _ ?_|(simp only [↓IntWalk.iteOmega];go_simp;(try go_bits);refine hK _ _ ?_));clear hK K)
  (refine Abs.step_late (v:=?_) rfl rfl (fun w0 hI=>?_) (fun K hK=>?_);rotate_left;(· have z0:=(AB (A7 hI (fa2))).1;have z1:=(AB (A7 hI (fb2))).1;go_simp;rfl);(simp only [Act.put,lA1,lZ1,lS1];refine hK _ _ ?_;clear hK K))
  (refine Abs.step_new (f:=fun g=>.pointer (some ⟨g,0,none⟩)) (obj:=?_) rfl rfl rfl rfl (fun w0=>?_) (fun K hK g_a hv_a hu_a=>?_);rotate_left;(· go_simp;rfl);(simp only [Act.put,lA1,lZ1,lS1];refine hK _ _ ?_;clear hK K))
  (refine Abs.step_new (f:=fun g=>.pointer (some ⟨g,0,none⟩)) (obj:=?_) rfl rfl rfl rfl (fun w0=>?_) (fun K hK g_b hv_b hu_b=>?_);rotate_left;(· go_simp;rfl);(simp only [Act.put,lA1,lZ1,lS1];refine hK _ _ ?_;clear hK K))
  have hn:g_b≠g_a:=fun e=>hu_b (Or.inl e)
  (refine Abs.step_store (T:=fun w0=>setRow w0 g_a #[.int .i64 x2,.string x3,.int .i64 x4,.int .i64 x5,.int .i64 x6,.slice A pn ac]) rfl rfl rfl (fun w0 hI hF hU=>?_) (fun w0 hI hU hJ=>BY hJ hv_a _) (fun K hK=>?_);(· simp only [Abs.T_setF,Abs.T_addA,Abs.T_push,Abs.T_start];exact BJ rfl rfl rfl ((hF 4).1.2 rfl) AY rfl (by simp [Value.oneCell']));(simp only [Act.put,lA1,lZ1,lS1];refine hK _ _ ?_;clear hK K))
  (refine Abs.step_store (T:=fun w0=>setRow (setRow w0 g_a #[.int .i64 x2,.string x3,.int .i64 x4,.int .i64 x5,.int .i64 x6,.slice A pn ac]) g_b #[.int .i64 y2,.string y3,.int .i64 y4,.int .i64 y5,.int .i64 y6,.slice A2 qn ac2]) rfl rfl rfl (fun w0 hI hF hU=>?_) (fun w0 hI hU hJ=>BY hJ hv_b _) (fun K hK=>?_);(· simp only [Abs.T_setF,Abs.T_addA,Abs.T_push,Abs.T_start];exact BJ rfl rfl rfl (((BD _ hn).trans ((hF 5).2 rfl))) AY rfl (by simp [Value.oneCell']));(simp only [Act.put,lA1,lZ1,lS1];refine hK _ _ ?_;clear hK K))
  intro w0 hI hF hx1 hx2
  have qa:=(hF 4).1.2 rfl
  have qb:=(hF 5).2 rfl
  clear hx1 hx2 hF
  simp only [Abs.T_setF,Abs.T_addA,Abs.T_push,Abs.T_start]
  have hv_a2:w2.heap.size<=g_a:=hv_a
  have hv_b2:w2.heap.size<=g_b:=hv_b
  generalize hTa:setRow w0 g_a _=wa
  obtain ⟨hba,fa3⟩:=BZ hI hv_a2 qa hTa
  have qb2:=(congrArg (fun W:World=>W.heap[g_b]?) hTa).symm.trans ((BD _ hn).trans qb)
  generalize hTb:setRow wa g_b _=w3
  obtain ⟨hb3,fb3⟩:=BZ hba hv_b2 qb2 hTb
  replace fa3:=(congrArg (fun W:World=>W.heap[g_a]?) hTb).symm.trans ((BD _ (Ne.symm hn)).trans fa3)
  have g1:=kp hb3 g1
  have g2:=kp hb3 g2
  have HB3:=AA (bB HB2.out hb3)
  clear qa qb qb2 hTa hTb hba hb3 hI hv_a hv_b hv_a2 hv_b2 hu_a hu_b hn
  obtain ⟨ga3,hga3⟩:∃ga,ga=g_a:=⟨_,rfl⟩
  obtain ⟨gb3,hgb3⟩:∃gb,gb=g_b:=⟨_,rfl⟩
  rw [<-hga3] at fa3 ⊢
  rw [<-hgb3] at fb3 ⊢
  clear hga3 hgb3
  go_wp2_with fail
  go_ret
  exact ⟨_,rfl,⟨(fun h=>by cases h),fun h=>(HNE.out h).elim⟩,HB3.out⟩
 replace he:=Classical.not_not.1 he
 subst he
 obtain ⟨u1,u2,u3⟩:=AB fa2
 obtain ⟨v1,v2,v3⟩:=AB fb2
 go_wp2_with fail
 clear u1 u2 u3 v1 v2 v3
 refine Abs.wp_region_abs (Abs.cls _ (fun _=>False)) [0,1,2,3,4,5,6,7] (by kernel_rfl) (by kernel_rfl) (Below.refl _ _).drew ?_
 (refine Abs.step_pure rfl rfl (fun K hK=>?_);go_simp;(try go_bits);(first|refine hK _ _ ?_|(simp only [↓IntWalk.iteOmega];go_simp;(try go_bits);refine hK _ _ ?_));clear hK K)
 (refine Abs.step_late (v:=?_) rfl rfl (fun w0 hI=>?_) (fun K hK=>?_);rotate_left;(· have z0:=(AB (A7 hI (fa2))).1;have z1:=(AB (A7 hI (fb2))).1;go_simp;rfl);(simp only [Act.put,lA1,lZ1,lS1];refine hK _ _ ?_;clear hK K))
 (refine Abs.step_pure rfl rfl (fun K hK=>?_);go_simp;(try go_bits);(first|refine hK _ _ ?_|(simp only [↓IntWalk.iteOmega];go_simp;(try go_bits);refine hK _ _ ?_));clear hK K)
 (refine Abs.step_late (v:=?_) rfl rfl (fun w0 hI=>?_) (fun K hK=>?_);rotate_left;(· have z0:=(AB (A7 hI (fa2))).1;have z1:=(AB (A7 hI (fb2))).1;go_simp;rfl);(simp only [Act.put,lA1,lZ1,lS1];refine hK _ _ ?_;clear hK K))
 (refine Abs.step_new (f:=fun g=>.pointer (some ⟨g,0,none⟩)) (obj:=?_) rfl rfl rfl rfl (fun w0=>?_) (fun K hK g_a hv_a hu_a=>?_);rotate_left;(· go_simp;rfl);(simp only [Act.put,lA1,lZ1,lS1];refine hK _ _ ?_;clear hK K))
 (refine Abs.step_new (f:=fun g=>.pointer (some ⟨g,0,none⟩)) (obj:=?_) rfl rfl rfl rfl (fun w0=>?_) (fun K hK g_b hv_b hu_b=>?_);rotate_left;(· go_simp;rfl);(simp only [Act.put,lA1,lZ1,lS1];refine hK _ _ ?_;clear hK K))
 have hn:g_b≠g_a:=fun e=>hu_b (Or.inl e)
 (refine Abs.step_store (T:=fun w0=>setRow w0 g_a #[.int .i64 x2,.string x3,.int .i64 x4,.int .i64 x5,.int .i64 x6,.slice A pn ac]) rfl rfl rfl (fun w0 hI hF hU=>?_) (fun w0 hI hU hJ=>BY hJ hv_a _) (fun K hK=>?_);(· simp only [Abs.T_setF,Abs.T_addA,Abs.T_push,Abs.T_start];exact BJ rfl rfl rfl ((hF 4).1.2 rfl) AY rfl (by simp [Value.oneCell']));(simp only [Act.put,lA1,lZ1,lS1];refine hK _ _ ?_;clear hK K))
 (refine Abs.step_store (T:=fun w0=>setRow (setRow w0 g_a #[.int .i64 x2,.string x3,.int .i64 x4,.int .i64 x5,.int .i64 x6,.slice A pn ac]) g_b #[.int .i64 y2,.string y3,.int .i64 y4,.int .i64 y5,.int .i64 y6,.slice A2 qn ac2]) rfl rfl rfl (fun w0 hI hF hU=>?_) (fun w0 hI hU hJ=>BY hJ hv_b _) (fun K hK=>?_);(· simp only [Abs.T_setF,Abs.T_addA,Abs.T_push,Abs.T_start];exact BJ rfl rfl rfl (((BD _ hn).trans ((hF 5).2 rfl))) AY rfl (by simp [Value.oneCell']));(simp only [Act.put,lA1,lZ1,lS1];refine hK _ _ ?_;clear hK K))
 intro w0 hI hF hx1 hx2
 have qa:=(hF 4).1.2 rfl
 have qb:=(hF 5).2 rfl
 clear hx1 hx2 hF
 simp only [Abs.T_setF,Abs.T_addA,Abs.T_push,Abs.T_start]
 have hv_a2:w2.heap.size<=g_a:=hv_a
 have hv_b2:w2.heap.size<=g_b:=hv_b
 generalize hTa:setRow w0 g_a _=wa
 obtain ⟨hba,fa3⟩:=BZ hI hv_a2 qa hTa
 have qb2:=(congrArg (fun W:World=>W.heap[g_b]?) hTa).symm.trans ((BD _ hn).trans qb)
 generalize hTb:setRow wa g_b _=w3
 obtain ⟨hb3,fb3⟩:=BZ hba hv_b2 qb2 hTb
 replace fa3:=(congrArg (fun W:World=>W.heap[g_a]?) hTb).symm.trans ((BD _ (Ne.symm hn)).trans fa3)
 have g1:=kp hb3 g1
 have g2:=kp hb3 g2
 have HB3:=AA (bB HB2.out hb3)
 clear qa qb qb2 hTa hTb hba hb3 hI hv_a hv_b hv_a2 hv_b2 hu_a hu_b hn
 obtain ⟨ga3,hga3⟩:∃ga,ga=g_a:=⟨_,rfl⟩
 obtain ⟨gb3,hgb3⟩:∃gb,gb=g_b:=⟨_,rfl⟩
 rw [<-hga3] at fa3 ⊢
 rw [<-hgb3] at fb3 ⊢
 clear hga3 hgb3
 by_cases he:¬x2=y2
 ·have HNE:=AA (show R->False from fun r=>he (congrArg Cm.mkd (Eq.mp HR.out r)))
  have n1:(x2== y2)=false:=beq_eq_false_iff_ne.2 he
  have n2:decide (x2=y2)=false:=decide_eq_false he
  clear he
  obtain ⟨u1,u2,u3⟩:=AB fa3
  obtain ⟨v1,v2,v3⟩:=AB fb3
  go_wp2_with fail
  go_ret
  exact ⟨_,rfl,⟨(fun h=>by cases h),fun h=>(HNE.out h).elim⟩,HB3.out⟩
 replace he:=Classical.not_not.1 he
 subst he
 by_cases he:¬x3=y3
 ·have HNE:=AA (show R->False from fun r=>he (congrArg Cm.mn (Eq.mp HR.out r)))
  have n1:(x3.toList== y3.toList)=false:=eqF he
  clear he
  obtain ⟨u1,u2,u3⟩:=AB fa3
  obtain ⟨v1,v2,v3⟩:=AB fb3
  go_wp2_with fail
  go_ret
  exact ⟨_,rfl,⟨(fun h=>by cases h),fun h=>(HNE.out h).elim⟩,HB3.out⟩
 replace he:=Classical.not_not.1 he
 subst he
 by_cases he:¬x4=y4
 ·have HNE:=AA (show R->False from fun r=>he (congrArg Cm.me (Eq.mp HR.out r)))
  have n1:(x4== y4)=false:=beq_eq_false_iff_ne.2 he
  have n2:decide (x4=y4)=false:=decide_eq_false he
  clear he
  obtain ⟨u1,u2,u3⟩:=AB fa3
  obtain ⟨v1,v2,v3⟩:=AB fb3
  go_wp2_with fail
  go_ret
  exact ⟨_,rfl,⟨(fun h=>by cases h),fun h=>(HNE.out h).elim⟩,HB3.out⟩
 replace he:=Classical.not_not.1 he
 subst he
 by_cases he:¬x5=y5
 ·have HNE:=AA (show R->False from fun r=>he (congrArg Cm.mf (Eq.mp HR.out r)))
  have n1:(x5== y5)=false:=beq_eq_false_iff_ne.2 he
  have n2:decide (x5=y5)=false:=decide_eq_false he
  clear he
  obtain ⟨u1,u2,u3⟩:=AB fa3
  obtain ⟨v1,v2,v3⟩:=AB fb3
  go_wp2_with fail
  go_ret
  exact ⟨_,rfl,⟨(fun h=>by cases h),fun h=>(HNE.out h).elim⟩,HB3.out⟩
 replace he:=Classical.not_not.1 he
 subst he
 by_cases he:¬x6=y6
 ·have HNE:=AA (show R->False from fun r=>he (congrArg Cm.ms (Eq.mp HR.out r)))
  have n1:(x6== y6)=false:=beq_eq_false_iff_ne.2 he
  have n2:decide (x6=y6)=false:=decide_eq_false he
  clear he
  obtain ⟨u1,u2,u3⟩:=AB fa3
  obtain ⟨v1,v2,v3⟩:=AB fb3
  go_wp2_with fail
  go_ret
  exact ⟨_,rfl,⟨(fun h=>by cases h),fun h=>(HNE.out h).elim⟩,HB3.out⟩
 replace he:=Classical.not_not.1 he
 subst he
 obtain ⟨u1,u2,u3⟩:=AB fa3
 obtain ⟨v1,v2,v3⟩:=AB fb3
 go_wp2_with fail
 refine (CP.out _ HB3.out).mono ?_
 rintro e w4 ⟨b,rfl,hbe,hb4⟩
 have HB4:=AA (bB HB3.out hb4)
 have g1:=kp hb4 g1
 have g2:=kp hb4 g2
 have HBE:=AA hbe
 clear u1 u2 u3 v1 v2 v3 hb4 fa2 fb2 fa3 fb3 hbe
 cases b
 ·have HNE:=AA (show R->False from fun r=>by have:=HBE.out.2 (congrArg Cm.pts (Eq.mp HR.out r));cases this)
  go_wp2_with fail
  go_ret
  exact ⟨_,rfl,⟨(fun h=>by cases h),fun h=>(HNE.out h).elim⟩,HB4.out⟩
 have HPE:=AA (HBE.out.1 rfl)
 obtain ⟨u1,u2,u3⟩:=AB g1
 obtain ⟨v1,v2,v3⟩:=AB g2
 by_cases he:¬x0=y0
 ·have HNE:=AA (show R->False from fun r=>he (congrArg Cm.kind (Eq.mp HR.out r)))
  have n1:(x0== y0)=false:=beq_eq_false_iff_ne.2 he
  have n2:decide (x0=y0)=false:=decide_eq_false he
  clear he
  go_wp2_with fail
  go_ret
  exact ⟨_,rfl,⟨(fun h=>by cases h),fun h=>(HNE.out h).elim⟩,HB4.out⟩
 replace he:=Classical.not_not.1 he
 subst he
 by_cases he:¬x16=y16
 ·have HNE:=AA (show R->False from fun r=>he (congrArg Cm.n (Eq.mp HR.out r)))
  have n1:(x16== y16)=false:=beq_eq_false_iff_ne.2 he
  have n2:decide (x16=y16)=false:=decide_eq_false he
  clear he
  go_wp2_with fail
  go_ret
  exact ⟨_,rfl,⟨(fun h=>by cases h),fun h=>(HNE.out h).elim⟩,HB4.out⟩
 replace he:=Classical.not_not.1 he
 subst he
 go_wp2_with fail
 refine (CI.out _ HB4.out).mono ?_
 rintro e w5 ⟨b,rfl,hbm,hb5⟩
 have HB5:=AA (bB HB4.out hb5)
 have HBM:=AA hbm
 clear hb5 hbm
 cases b
 ·have HNE:=AA (show R->False from fun r=>by have:=HBM.out.2 (congrArg Cm.masks (Eq.mp HR.out r));cases this)
  go_wp2_with fail
  go_ret
  exact ⟨_,rfl,⟨(fun h=>by cases h),fun h=>(HNE.out h).elim⟩,HB5.out⟩
 have HME:=AA (HBM.out.1 rfl)
 go_wp2_with fail
 go_ret
 exact ⟨_,rfl,⟨fun _=>Eq.mpr HR.out (by rw [HPE.out,HME.out]),fun _=>rfl⟩,HB5.out⟩
end Go.Proofs.YtlnonecibpjcoaaGreatDoor
