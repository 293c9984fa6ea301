/- The document's a. -/
import Derived.Test.YtlnonecibpjcoaaGreatDoorQj
import Derived.Test.YtlnonecibpjcoaaGreatDoorQg
import Derived.Test.YtlnonecibpjcoaaGreatDoorQk
set_option linter.all false
set_option maxRecDepth 100000
set_option maxHeartbeats 16000000
namespace Go.Proofs.YtlnonecibpjcoaaGreatDoor
open Go.RowKit
attribute [local go_sem] Oper.semAt_some
def G0:Option ByteArray->Ending->Prop
 | some s,e=>e=.returned (.tuple #[.string s,.bool true])
 | none,e=>e=.returned (.tuple #[.string ⟨#[]⟩,.bool false])
theorem na1 (w:World) (cs cs':Array Value) (t t':TypeId):((w.alloc (.cells cs t)).alloc (.cells cs' t')).heap[w.heap.size+1]?=some (.cells cs' t' (0,0)):=by
 have h:=na (w.alloc (.cells cs t)) cs' t'
 rw [World.size_alloc] at h
 exact h
theorem M7 {x:Int} (h:AF x):(AQ [x]).size<=21:=J8 [x] (by simpa using h)
theorem SS {x y:Int} (h:AF x) (h2:AF y):(AQ [x,y]).size<=42:=J8 [x,y] (by simpa using ⟨h,h2⟩)
theorem tQ {x y z:Int} (h:AF x) (h2:AF y) (h3:AF z):(AQ [x,y,z]).size<=63:=J8 [x,y,z] (by simpa using ⟨h,h2,h3⟩)
theorem tR (c:Cm) (hc:CmOK c) (hs:D1 c) (hm:c.masks.length<=310) (hp:c.pts.length<=40) (A:Option Addr) (ac:Nat) (M:Option Addr) (mc:Nat) (w:World) (hA:RK 99 2 w A c.pts.length ac (AU c.pts)) (hM:RK 3 1 w M c.masks.length mc (AH c.masks)) (hk:c.kind=2) :
  Calls Tryz.prog 17 #[.agg (c.cs A ac M mc)] w fun e w'=>∃r,G0 r e/\BV c r/\Below w.heap.size w w':=by
 obtain ⟨X,hX⟩:∃X,X=c.cs A ac M mc:=⟨_,rfl⟩
 have hXs:X.size=19:=by rw [hX];rfl
 have hX1:X.all (·.oneCell')=true:=by rw [hX];exact BB _ _ _ _ _ _
 have x0:X[0]?=some (.int .i64 c.kind):=by rw [hX];rfl
 have x17:X[17]?=some (.int .i64 c.n):=by rw [hX];rfl
 have x18:X[18]?=some (.slice M c.masks.length mc):=by rw [hX];rfl
 have fb:=na w X 48
 have hb1:=bA (b0 w) (.cells X 48)
 rw [<-hX]
 have HX:=AA hX
 have HA:=AA hA
 have HM:=AA hM
 have HC:=AA hc
 have hrs:=JR hc hs hm hp
 clear hX hA hM hc hs hp
 rw [hk] at x0
 obtain ⟨n,hn⟩:∃n,n=c.n:=⟨_,rfl⟩
 have hin:AF n:=by rw [hn];exact HC.out.n
 have HS:Hid (B2++AQ [n]=AP c):=AA (by unfold AP;rw [hk,if_pos rfl,hn])
 rw [<-hn] at x17
 have hrz:=M7 hin
 have HR:=AA (GI hin)
 clear hn hm hin
 obtain ⟨R,hR⟩:∃R,R=AQ [n]:=⟨_,rfl⟩
 have cR:=GR (some ⟨w.heap.size+1,0,none⟩) 1 [n] (by simp) HR.out ((w.alloc (.cells X 48)).alloc (.cells #[.int .i64 n] 2)) (InV.of (na1 _ _ _ _ _) rfl)
 rw [<-hR] at HS hrz cR
 have hSz:(B2++R).size<=10000:=by rw [HS.out];exact hrs
 have z0:=((AB fb).1 0).trans x0
 have z17:=((AB fb).1 17).trans x17
 clear hR hrs HR
 go_enter Tryz.func17,Tryz.ntmps17
 go_wp2_with fail
 refine cR.mono ?_
 rintro e w2 ⟨rfl,hb2⟩
 have HB:=AA (bB (bA hb1 (.cells #[.int .i64 n] 2)) hb2)
 have f:=kp hb2 (kp (bA (b0 _) (.cells #[.int .i64 n] 2)) fb)
 have z0:=((AB f).1 0).trans x0
 clear cR hb2 fb hb1 x0 x17 x18 z17
 go_wp2_with fail
 refine (I5 (B2++R) hSz _).mono ?_
 rintro e w4 hp4
 rw [GN] at hp4
 cases hpl:AZ (B2++R) with
 | none=>
  rw [hpl] at hp4
  obtain ⟨Y,rfl,hYs,hY1,hb4⟩:=hp4
  have HN:Hid (BV c none):=AA (by show AZ (AP c)≠some c;rw [<-HS.out,hpl];intro h;cases h)
  have HB4:=AA (bB HB.out hb4)
  clear hb4 hpl f
  go_wp2_with (refine AG rfl _ _ _ rfl w4.heap.size 48 _ Y rfl rfl (na w4 AD 48) (by rw [AE,hYs]) (by rw [hYs];rfl) hY1 ?_;simp only [Act.put];generalize hT5:setRow _ _ _=w5;obtain ⟨hx5,f5⟩:=AK (b0 _) (na w4 AD 48) hT5;have HB5:=AA (bB HB4.out (bX (bA (b0 w4) (.cells AD 48)) hx5 (Nat.le_refl _)));clear hT5 hx5)
  go_ret2
  exact ⟨none,rfl,HN.out,HB5.out⟩
 | some c'=>
  rw [hpl] at hp4
  obtain ⟨v,rfl,hk',hb4⟩:=hp4
  obtain ⟨A',ac',M',mc',rfl,hA',hM'⟩:=hk'.k
  obtain ⟨Y,hY⟩:∃Y,Y=c'.cs A' ac' M' mc':=⟨_,rfl⟩
  have hYs:Y.size=19:=by rw [hY];rfl
  have hY1:Y.all (·.oneCell')=true:=by rw [hY];exact BB _ _ _ _ _ _
  rw [<-hY]
  have HY:=AA hY
  have HB4:=AA (bB HB.out hb4)
  have f4:=kp hb4 f
  have HP:=AA hpl
  have HA':=AA hA'
  have HM':=AA hM'
  clear hb4 hY hk' hA' hM' hpl f
  go_wp2_with (first
   | (refine AG rfl _ _ _ rfl w4.heap.size 48 _ Y rfl rfl (na w4 AD 48) (by rw [AE,hYs]) (by rw [hYs];rfl) hY1 ?_;simp only [Act.put];generalize hT5:setRow _ _ _=w5;obtain ⟨hx5,g5⟩:=AK (b0 _) (na w4 AD 48) hT5;have HB45:=AA (bX (bA (b0 w4) (.cells AD 48)) hx5 (Nat.le_refl _));have f5:=kp HB45.out f4;clear hT5 hx5)
   | (refine DL rfl _ _ rfl w4.heap.size 48 Y rfl g5 _ rfl Tryz.underlying48 (by rw [AE,hYs]) ?_;simp only [Act.put,lA1,lZ1,lS1])
   | (refine DL rfl _ _ rfl w.heap.size 48 X rfl f5 _ rfl Tryz.underlying48 (by rw [AE,hXs]) ?_;simp only [Act.put,lA1,lZ1,lS1]))
  have HB5:=AA (bB HB4.out HB45.out)
  have c13:=IM c' c A' ac' M' mc' A ac M mc w5 (HA'.out.below HB45.out) (HM'.out.below HB45.out) (HA.out.below HB5.out) (HM.out.below HB5.out)
  rw [<-HY.out,<-HX.out] at c13
  refine c13.mono ?_
  rintro e w6 ⟨b,rfl,hbe,hb6⟩
  have HB6:=AA (bB HB5.out hb6)
  have HBE:=AA hbe
  clear hbe hb6 c13
  cases b
  ·have HN:Hid (BV c none):=AA (by
    show AZ (AP c)≠some c
    intro h2
    rw [<-HS.out,HP.out] at h2
    have:=HBE.out.2 (Option.some.inj h2)
    cases this)
   go_wp2_with fail
   go_ret2
   exact ⟨none,rfl,HN.out,HB6.out⟩
  ·have HN:Hid (BV c (some (B2++R))):=AA ⟨HS.out,by rw [HP.out,HBE.out.1 rfl]⟩
   go_wp2_with fail
   go_ret2
   exact ⟨some (B2++R),rfl,HN.out,HB6.out⟩
theorem tS (c:Cm) (hc:CmOK c) (hs:D1 c) (hm:c.masks.length<=310) (hp:c.pts.length<=40) (A:Option Addr) (ac:Nat) (M:Option Addr) (mc:Nat) (w:World) (hA:RK 99 2 w A c.pts.length ac (AU c.pts)) (hM:RK 3 1 w M c.masks.length mc (AH c.masks)) (hk:c.kind=3) :
  Calls Tryz.prog 17 #[.agg (c.cs A ac M mc)] w fun e w'=>∃r,G0 r e/\BV c r/\Below w.heap.size w w':=by
 obtain ⟨X,hX⟩:∃X,X=c.cs A ac M mc:=⟨_,rfl⟩
 have hXs:X.size=19:=by rw [hX];rfl
 have hX1:X.all (·.oneCell')=true:=by rw [hX];exact BB _ _ _ _ _ _
 have x0:X[0]?=some (.int .i64 c.kind):=by rw [hX];rfl
 have x17:X[17]?=some (.int .i64 c.n):=by rw [hX];rfl
 have x18:X[18]?=some (.slice M c.masks.length mc):=by rw [hX];rfl
 have fb:=na w X 48
 have hb1:=bA (b0 w) (.cells X 48)
 rw [<-hX]
 have HX:=AA hX
 have HA:=AA hA
 have HM:=AA hM
 have HC:=AA hc
 have hrs:=JR hc hs hm hp
 clear hX hA hM hc hs hp
 rw [hk] at x0
 obtain ⟨ms,hms⟩:∃ms,ms=c.masks:=⟨_,rfl⟩
 have HS0:Hid (B3++AQ ms=AP c):=AA (by unfold AP;rw [hk,if_neg (by decide),if_pos rfl,hms])
 have HI:=AA HC.out.masks
 have HM2:=AA HM.out.inK.inV
 rw [<-hms] at x18 hm HI HM2
 have z0:=((AB fb).1 0).trans x0
 have z18:=((AB fb).1 18).trans x18
 clear hms
 go_enter Tryz.func17,Tryz.ntmps17
 go_wp2_with fail
 clear z0 z18
 go_loopw [5,4] (fun v5 v4 wr=>∃(k:Nat) (s:ByteArray),v5=.int .i64 (k:Int)/\v4=.string s/\k<=ms.length/\Hid (s=B3++AQ (ms.take k))/\Below w.heap.size w wr/\wr.heap[w.heap.size]?=some (.cells X 48 (0,0))) (fun v5 _ _=>ms.length-(intOf v5).toNat)
 case atStart=>exact ⟨0,_,rfl,rfl,by omega,AA (by rw [List.take_zero];rfl),hb1,fb⟩
 case round=>
  clear fb hb1
  obtain ⟨k,s,rfl,rfl,hk9,HT,hb,f⟩:=hrel
  have z0:=((AB f).1 0).trans x0
  have z18:=((AB f).1 18).trans x18
  by_cases hlt:k<ms.length
  ·have e1:decide ((k:Int)<(ms.length:Int))=true:=decide_eq_true (by omega)
   obtain ⟨ad,rfl,-,-⟩:=HM2.out (by rw [BL];omega)
   have q:=SQ HM2.out hb k hlt
   have HX1:=AA (HI.out _ (List.getElem_mem hlt))
   have HTT:Hid (B3++AQ (ms.take (k+1))=s++AQ [ms[k]]):=AA (by
    rw [List.take_succ_eq_append_getElem hlt,P5,HT.out,ByteArray.append_assoc])
   have hsz:s.size<=100000:=by
    rw [HT.out,ByteArray.size_append]
    have:=J8 (ms.take k) (fun y hy=>HI.out y (List.mem_of_mem_take hy))
    rw [List.length_take] at this
    have h5:B3.size=5:=by decide
    omega
   generalize ms[k]=x at *
   have hrz:=M7 HX1.out
   have HR:=AA (GI HX1.out)
   obtain ⟨R,hR⟩:∃R,R=AQ [x]:=⟨_,rfl⟩
   have cR:=GR (some ⟨wr.heap.size,0,none⟩) 1 [x] (by simp) HR.out (wr.alloc (.cells #[.int .i64 x] 2)) (InV.of (na wr #[.int .i64 x] 2) rfl)
   rw [<-hR] at HTT hrz cR
   clear hR HR HX1 HT
   go_wp2_with fail
   refine cR.mono ?_
   rintro e w2 ⟨rfl,hb2⟩
   have HB:=AA (bB (bA hb (.cells #[.int .i64 x] 2)) hb2)
   have HF:=AA (kp hb2 (kp (bA (b0 _) (.cells #[.int .i64 x] 2)) f))
   clear cR hb2 f z0 z18 q hb
   go_wp2_with fail
   go_roundw
   case rel=>exact ⟨k+1,_,by go_num,rfl,by omega,AA HTT.out.symm,HB.out,HF.out⟩
   case measure=>simp [intOf];omega
  ·have e1:decide ((k:Int)<(ms.length:Int))=false:=decide_eq_false (by omega)
   have HS:Hid (s=AP c):=AA (by rw [<-HS0.out,HT.out,List.take_of_length_le (by omega)])
   have hSz:s.size<=10000:=by rw [HS.out];exact hrs
   have HB:=AA hb
   clear hb HT HS0 HI HM2
   go_wp2_with fail
   clear z0 z18
   refine (I5 s hSz _).mono ?_
   rintro e w4 hp4
   rw [GN] at hp4
   cases hpl:AZ s with
   | none=>
    rw [hpl] at hp4
    obtain ⟨Y,rfl,hYs,hY1,hb4⟩:=hp4
    have HN:Hid (BV c none):=AA (by show AZ (AP c)≠some c;rw [<-HS.out,hpl];intro h;cases h)
    have HB4:=AA (bB HB.out hb4)
    clear hb4 hpl f
    go_wp2_with (refine AG rfl _ _ _ rfl w4.heap.size 48 _ Y rfl rfl (na w4 AD 48) (by rw [AE,hYs]) (by rw [hYs];rfl) hY1 ?_;simp only [Act.put];generalize hT5:setRow _ _ _=w5;obtain ⟨hx5,f5⟩:=AK (b0 _) (na w4 AD 48) hT5;have HB5:=AA (bB HB4.out (bX (bA (b0 w4) (.cells AD 48)) hx5 (Nat.le_refl _)));clear hT5 hx5)
    go_ret2
    exact ⟨none,rfl,HN.out,HB5.out⟩
   | some c'=>
    rw [hpl] at hp4
    obtain ⟨v,rfl,hk',hb4⟩:=hp4
    obtain ⟨A',ac',M',mc',rfl,hA',hM'⟩:=hk'.k
    obtain ⟨Y,hY⟩:∃Y,Y=c'.cs A' ac' M' mc':=⟨_,rfl⟩
    have hYs:Y.size=19:=by rw [hY];rfl
    have hY1:Y.all (·.oneCell')=true:=by rw [hY];exact BB _ _ _ _ _ _
    rw [<-hY]
    have HY:=AA hY
    have HB4:=AA (bB HB.out hb4)
    have f4:=kp hb4 f
    have HP:=AA hpl
    have HA':=AA hA'
    have HM':=AA hM'
    clear hb4 hY hk' hA' hM' hpl f
    go_wp2_with (first
     | (refine AG rfl _ _ _ rfl w4.heap.size 48 _ Y rfl rfl (na w4 AD 48) (by rw [AE,hYs]) (by rw [hYs];rfl) hY1 ?_;simp only [Act.put];generalize hT5:setRow _ _ _=w5;obtain ⟨hx5,g5⟩:=AK (b0 _) (na w4 AD 48) hT5;have HB45:=AA (bX (bA (b0 w4) (.cells AD 48)) hx5 (Nat.le_refl _));have f5:=kp HB45.out f4;clear hT5 hx5)
     | (refine DL rfl _ _ rfl w4.heap.size 48 Y rfl g5 _ rfl Tryz.underlying48 (by rw [AE,hYs]) ?_;simp only [Act.put,lA1,lZ1,lS1])
     | (refine DL rfl _ _ rfl w.heap.size 48 X rfl f5 _ rfl Tryz.underlying48 (by rw [AE,hXs]) ?_;simp only [Act.put,lA1,lZ1,lS1]))
    have HB5:=AA (bB HB4.out HB45.out)
    have c13:=IM c' c A' ac' M' mc' A ac M mc w5 (HA'.out.below HB45.out) (HM'.out.below HB45.out) (HA.out.below HB5.out) (HM.out.below HB5.out)
    rw [<-HY.out,<-HX.out] at c13
    refine c13.mono ?_
    rintro e w6 ⟨b,rfl,hbe,hb6⟩
    have HB6:=AA (bB HB5.out hb6)
    have HBE:=AA hbe
    clear hbe hb6 c13
    cases b
    ·have HN:Hid (BV c none):=AA (by
      show AZ (AP c)≠some c
      intro h2
      rw [<-HS.out,HP.out] at h2
      have:=HBE.out.2 (Option.some.inj h2)
      cases this)
     go_wp2_with fail
     go_ret2
     exact ⟨none,rfl,HN.out,HB6.out⟩
    ·have HN:Hid (BV c (some s)):=AA ⟨HS.out,by rw [HP.out,HBE.out.1 rfl]⟩
     go_wp2_with fail
     go_ret2
     exact ⟨some s,rfl,HN.out,HB6.out⟩
theorem tT (c:Cm) (hc:CmOK c) (hs:D1 c) (hm:c.masks.length<=310) (hp:c.pts.length<=40) (A:Option Addr) (ac:Nat) (M:Option Addr) (mc:Nat) (w:World) (hA:RK 99 2 w A c.pts.length ac (AU c.pts)) (hM:RK 3 1 w M c.masks.length mc (AH c.masks)) (h1:c.kind≠1) (h2:c.kind≠2) (h3:c.kind≠3) :
  Calls Tryz.prog 17 #[.agg (c.cs A ac M mc)] w fun e w'=>∃r,G0 r e/\BV c r/\Below w.heap.size w w':=by
 obtain ⟨X,hX⟩:∃X,X=c.cs A ac M mc:=⟨_,rfl⟩
 have hXs:X.size=19:=by rw [hX];rfl
 have hX1:X.all (·.oneCell')=true:=by rw [hX];exact BB _ _ _ _ _ _
 have x0:X[0]?=some (.int .i64 c.kind):=by rw [hX];rfl
 have x17:X[17]?=some (.int .i64 c.n):=by rw [hX];rfl
 have x18:X[18]?=some (.slice M c.masks.length mc):=by rw [hX];rfl
 have fb:=na w X 48
 have hb1:=bA (b0 w) (.cells X 48)
 rw [<-hX]
 have HX:=AA hX
 have HA:=AA hA
 have HM:=AA hM
 have HC:=AA hc
 have hrs:=JR hc hs hm hp
 clear hX hA hM hc hs hp
 have HS:Hid ((⟨#[]⟩:ByteArray)=AP c):=AA (by unfold AP;rw [if_neg h2,if_neg h3,if_pos h1])
 have hSz:(⟨#[]⟩:ByteArray).size<=10000:=by decide
 have HB:=AA hb1
 generalize c.kind=kd at x0 h1 h2 h3
 have a1:(kd== 1)=false:=beq_eq_false_iff_ne.2 h1
 have a2:(kd== 2)=false:=beq_eq_false_iff_ne.2 h2
 have a3:(kd== 3)=false:=beq_eq_false_iff_ne.2 h3
 have b1:decide (kd=1)=false:=decide_eq_false h1
 have b2:decide (kd=2)=false:=decide_eq_false h2
 have b3:decide (kd=3)=false:=decide_eq_false h3
 have z0:=((AB fb).1 0).trans x0
 have f:=fb
 clear h1 h2 h3 hrs
 go_enter Tryz.func17,Tryz.ntmps17
 go_wp2_with fail
 clear fb z0
 refine (I5 ⟨#[]⟩ hSz _).mono ?_
 rintro e w4 hp4
 rw [GN] at hp4
 cases hpl:AZ ⟨#[]⟩ with
 | none=>
  rw [hpl] at hp4
  obtain ⟨Y,rfl,hYs,hY1,hb4⟩:=hp4
  have HN:Hid (BV c none):=AA (by show AZ (AP c)≠some c;rw [<-HS.out,hpl];intro h;cases h)
  have HB4:=AA (bB HB.out hb4)
  clear hb4 hpl f
  go_wp2_with (refine AG rfl _ _ _ rfl w4.heap.size 48 _ Y rfl rfl (na w4 AD 48) (by rw [AE,hYs]) (by rw [hYs];rfl) hY1 ?_;simp only [Act.put];generalize hT5:setRow _ _ _=w5;obtain ⟨hx5,f5⟩:=AK (b0 _) (na w4 AD 48) hT5;have HB5:=AA (bB HB4.out (bX (bA (b0 w4) (.cells AD 48)) hx5 (Nat.le_refl _)));clear hT5 hx5)
  go_ret2
  exact ⟨none,rfl,HN.out,HB5.out⟩
 | some c'=>
  rw [hpl] at hp4
  obtain ⟨v,rfl,hk',hb4⟩:=hp4
  obtain ⟨A',ac',M',mc',rfl,hA',hM'⟩:=hk'.k
  obtain ⟨Y,hY⟩:∃Y,Y=c'.cs A' ac' M' mc':=⟨_,rfl⟩
  have hYs:Y.size=19:=by rw [hY];rfl
  have hY1:Y.all (·.oneCell')=true:=by rw [hY];exact BB _ _ _ _ _ _
  rw [<-hY]
  have HY:=AA hY
  have HB4:=AA (bB HB.out hb4)
  have f4:=kp hb4 f
  have HP:=AA hpl
  have HA':=AA hA'
  have HM':=AA hM'
  clear hb4 hY hk' hA' hM' hpl f
  go_wp2_with (first
   | (refine AG rfl _ _ _ rfl w4.heap.size 48 _ Y rfl rfl (na w4 AD 48) (by rw [AE,hYs]) (by rw [hYs];rfl) hY1 ?_;simp only [Act.put];generalize hT5:setRow _ _ _=w5;obtain ⟨hx5,g5⟩:=AK (b0 _) (na w4 AD 48) hT5;have HB45:=AA (bX (bA (b0 w4) (.cells AD 48)) hx5 (Nat.le_refl _));have f5:=kp HB45.out f4;clear hT5 hx5)
   | (refine DL rfl _ _ rfl w4.heap.size 48 Y rfl g5 _ rfl Tryz.underlying48 (by rw [AE,hYs]) ?_;simp only [Act.put,lA1,lZ1,lS1])
   | (refine DL rfl _ _ rfl w.heap.size 48 X rfl f5 _ rfl Tryz.underlying48 (by rw [AE,hXs]) ?_;simp only [Act.put,lA1,lZ1,lS1]))
  have HB5:=AA (bB HB4.out HB45.out)
  have c13:=IM c' c A' ac' M' mc' A ac M mc w5 (HA'.out.below HB45.out) (HM'.out.below HB45.out) (HA.out.below HB5.out) (HM.out.below HB5.out)
  rw [<-HY.out,<-HX.out] at c13
  refine c13.mono ?_
  rintro e w6 ⟨b,rfl,hbe,hb6⟩
  have HB6:=AA (bB HB5.out hb6)
  have HBE:=AA hbe
  clear hbe hb6 c13
  cases b
  ·have HN:Hid (BV c none):=AA (by
    show AZ (AP c)≠some c
    intro h2
    rw [<-HS.out,HP.out] at h2
    have:=HBE.out.2 (Option.some.inj h2)
    cases this)
   go_wp2_with fail
   go_ret2
   exact ⟨none,rfl,HN.out,HB6.out⟩
  ·have HN:Hid (BV c (some ⟨#[]⟩)):=AA ⟨HS.out,by rw [HP.out,HBE.out.1 rfl]⟩
   go_wp2_with fail
   go_ret2
   exact ⟨some ⟨#[]⟩,rfl,HN.out,HB6.out⟩
theorem tU (c:Cm) (hc:CmOK c) (hs:D1 c) (hm:c.masks.length<=310) (hp:c.pts.length<=40) (A:Option Addr) (ac:Nat) (M:Option Addr) (mc:Nat) (w:World) (hA:RK 99 2 w A c.pts.length ac (AU c.pts)) (hM:RK 3 1 w M c.masks.length mc (AH c.masks)) (hk:c.kind=1) (ho:c.ok=1) (hmk:c.mkd=3) :
  Calls Tryz.prog 17 #[.agg (c.cs A ac M mc)] w fun e w'=>∃r,G0 r e/\BV c r/\Below w.heap.size w w':=by
 obtain ⟨X,hX⟩:∃X,X=c.cs A ac M mc:=⟨_,rfl⟩
 have hXs:X.size=19:=by rw [hX];rfl
 have fb:=na w X 48
 have HBw1:=AA (bA (b0 w) (.cells X 48))
 have HX:=AA hX
 have HA:=AA hA
 have HM:=AA hM
 have HC:=AA hc
 have hrs:=JR hc hs hm hp
 obtain ⟨hs1,hs2,hs3⟩:=hs
 have fe:(w.alloc (.cells X 48)).heap[w.heap.size]?=some (.cells #[.int .i64 c.kind,.int .i64 c.ok,.int .i64 c.mkd,.string c.mn,.int .i64 c.me,.int .i64 c.mf,.int .i64 c.ms,.slice A c.pts.length ac,.int .i64 c.qk,.string c.qn,.int .i64 c.qa,.int .i64 c.qb,.int .i64 c.qw,.int .i64 c.qN,.string c.nm,.int .i64 c.t,.int .u64 c.bits,.int .i64 c.n,.slice M c.masks.length mc] 48 (0,0)):=by rw [hX];exact na _ _ _
 rw [hk,ho,hmk] at fe
 rw [<-hX]
 obtain ⟨w1,hw1⟩:∃w1,w.alloc (.cells X 48)=w1:=⟨_,rfl⟩
 rw [hw1] at fb fe HBw1
 have z48:=(AB fe).1
 clear hX hA hM hc fe
 obtain ⟨S0,hS0⟩:∃S:ByteArray,(⟨#[97,112,112,101,110,100,32]⟩:ByteArray)++c.mn=S:=⟨_,rfl⟩
 have HS0:Hid (S0++AQ (D2 c.pts)=AP c):=AA (by rw [<-hS0];unfold AP;rw [hk,if_neg (by decide),if_neg (by decide),if_neg (by decide),ho,if_pos rfl,hmk];rfl)
 have hS0z:S0.size<=1007:=by
  rw [<-hS0,ByteArray.size_append]
  have h7:(⟨#[97,112,112,101,110,100,32]⟩:ByteArray).size=7:=by decide
  omega
 have HPS:=AA HC.out.pts
 have HAI:=AA HA.out.inK.inV
 clear hk ho hmk
 go_enter Tryz.func17,Tryz.ntmps17
 go_wp2_with (first
  | (refine AG rfl _ _ _ rfl w1.heap.size 29 _ _ rfl rfl (na _ _ _) IV rfl (by simp [Value.oneCell']) ?_;simp only [Act.put];generalize hTw3:setRow _ _ _=w3;obtain ⟨hxw3,f29⟩:=AK (b0 _) (na w1 _ 29) hTw3;have HCw3:=AA (bX (bA (b0 w1) _) hxw3 (Nat.le_refl _));have HBw3:=AA (bB HBw1.out HCw3.out);have fb:=kp HCw3.out fb;have z29:=(AB f29).1;clear hTw3 hxw3 HCw3 HBw1 z48)
  | (refine AG rfl _ _ _ rfl w3.heap.size 24 _ _ rfl rfl (na _ _ _) AY rfl (by simp [Value.oneCell']) ?_;simp only [Act.put];generalize hTw5:setRow _ _ _=w5;obtain ⟨hxw5,f24⟩:=AK (b0 _) (na w3 _ 24) hTw5;have HCw5:=AA (bX (bA (b0 w3) _) hxw5 (Nat.le_refl _));have HBw5:=AA (bB HBw3.out HCw5.out);have fb:=kp HCw5.out fb;have f29:=kp HCw5.out f29;have z29:=(AB f29).1;have z24:=(AB f24).1;clear hTw5 hxw5 HCw5 HBw3)
  | (refine AG rfl _ _ _ rfl w5.heap.size 26 _ _ rfl rfl (na _ _ _) EY rfl (by simp [Value.oneCell']) ?_;simp only [Act.put];generalize hTw7:setRow _ _ _=w7;obtain ⟨hxw7,f26⟩:=AK (b0 _) (na w5 _ 26) hTw7;have HCw7:=AA (bX (bA (b0 w5) _) hxw7 (Nat.le_refl _));have HBw7:=AA (bB HBw5.out HCw7.out);have fb:=kp HCw7.out fb;have f29:=kp HCw7.out f29;have z29:=(AB f29).1;have f24:=kp HCw7.out f24;have z24:=(AB f24).1;have z26:=(AB f26).1;clear hTw7 hxw7 HCw7 HBw5))
 go_loopw [9,4] (fun v9 v4 wr=>∃(k:Nat) (s:ByteArray),v9=.int .i64 (k:Int)/\v4=.string s/\k<=c.pts.length/\Hid (s=S0++AQ (D2 (c.pts.take k)))/\Below w7.heap.size w7 wr) (fun v9 _ _=>c.pts.length-(intOf v9).toNat)
 case atStart=>exact ⟨0,S0,rfl,by first|rfl|rw [hS0],by omega,AA (by rw [List.take_zero];exact (J7 S0).symm),b0 _⟩
 case round=>
  clear z29 z24 z26
  obtain ⟨k,s,rfl,rfl,hk9,HT,hb⟩:=hrel
  have g29:=kp hb f29
  have g24:=kp hb f24
  have g26:=kp hb f26
  have gb:=kp hb fb
  have z29:=(AB g29).1
  have z24:=(AB g24).1
  have z26:=(AB g26).1
  by_cases hlt:k<c.pts.length
  ·have e1:decide ((k:Int)<(c.pts.length:Int))=true:=decide_eq_true (by omega)
   obtain ⟨ad,rfl,-,-⟩:=HAI.out (by have:=H3 c.pts;omega)
   have PM:=fun w0 (hI:Below wr.heap.size wr w0)=>KA HAI.out (bB (bB HBw7.out hb) hI) k hlt
   have HX1:=AA (HPS.out _ (List.getElem_mem hlt))
   have HTT:Hid (S0++AQ (D2 (c.pts.take (k+1)))=s++AQ [c.pts[k].1,c.pts[k].2]):=AA (by rw [tJ hlt,HT.out,ByteArray.append_assoc])
   have hsz:s.size<=10000:=by
    rw [HT.out,ByteArray.size_append]
    have:=J8 (D2 (c.pts.take k)) (tK fun p hp=>HPS.out p (List.mem_of_mem_take hp))
    rw [YO,List.length_take] at this
    omega
   generalize c.pts[k]=p at PM HX1 HTT
   obtain ⟨p1,p2⟩:=p
   simp only at PM HX1 HTT
   have hrz:=SS HX1.out.1 HX1.out.2
   have HR:=AA (KZ HX1.out.1 HX1.out.2)
   go_wp2_with fail
   clear z29 z24 z26
   refine Abs.wp_region_abs (Abs.cls0 _) [0,1,2,3,4,5,6,7,8,9,10,11,12,13,14,15,16] (by kernel_rfl) (by kernel_rfl) (Below.refl _ _).drew ?_
   iterate 2 (refine Abs.step_pure rfl rfl (fun K hK=>?_);go_simp;(try go_bits);(first|refine hK _ _ ?_|(simp only [↓IntWalk.iteOmega];go_simp;(try go_bits);refine hK _ _ ?_));clear hK K)
   (refine Abs.step_load (v:=?_) rfl rfl (by kernel_rfl) rfl (fun w0 hI=>?_) (fun K hK=>?_);rotate_left;(· have z0:=(AB (kp hI (g24))).1;go_simp;rfl);(simp only [Act.put,lA1,lZ1,lS1];refine hK _ _ ?_;clear hK K))
   iterate 3 (refine Abs.step_pure rfl rfl (fun K hK=>?_);go_simp;(try go_bits);(first|refine hK _ _ ?_|(simp only [↓IntWalk.iteOmega];go_simp;(try go_bits);refine hK _ _ ?_));clear hK K)
   (refine Abs.step_load (v:=?_) rfl rfl (by kernel_rfl) rfl (fun w0 hI=>?_) (fun K hK=>?_);rotate_left;(· obtain ⟨zp0,zq0⟩:=PM w0 hI;go_simp;rfl);(simp only [Act.put,lA1,lZ1,lS1];refine hK _ _ ?_;clear hK K))
   (refine Abs.step_pure rfl rfl (fun K hK=>?_);go_simp;(try go_bits);(first|refine hK _ _ ?_|(simp only [↓IntWalk.iteOmega];go_simp;(try go_bits);refine hK _ _ ?_));clear hK K)
   (refine Abs.step_load (v:=?_) rfl rfl (by kernel_rfl) rfl (fun w0 hI=>?_) (fun K hK=>?_);rotate_left;(· have z0:=(AB (kp hI (g24))).1;go_simp;rfl);(simp only [Act.put,lA1,lZ1,lS1];refine hK _ _ ?_;clear hK K))
   iterate 3 (refine Abs.step_pure rfl rfl (fun K hK=>?_);go_simp;(try go_bits);(first|refine hK _ _ ?_|(simp only [↓IntWalk.iteOmega];go_simp;(try go_bits);refine hK _ _ ?_));clear hK K)
   (refine Abs.step_load (v:=?_) rfl rfl (by kernel_rfl) rfl (fun w0 hI=>?_) (fun K hK=>?_);rotate_left;(· obtain ⟨zp0,zq0⟩:=PM w0 hI;go_simp;rfl);(simp only [Act.put,lA1,lZ1,lS1];refine hK _ _ ?_;clear hK K))
   (refine Abs.step_new (f:=fun g=>.slice (some ⟨g,0,none⟩) 2 2) (obj:=(.cells #[.int .i64 p1,.int .i64 p2] 2)) rfl rfl rfl rfl (fun w0=>?_) (fun K hK g_s hv_s hu_s=>?_);(· go_simp;try rfl);(simp only [Act.put,lA1,lZ1,lS1];refine hK _ _ ?_;clear hK K))
   (refine Abs.step_call (f:=?_) (args:=?_) rfl rfl rfl rfl (fun v _=>v=.string (AQ [p1,p2])) (fun _ _ _ h _=>h) (fun w0=>?_) (fun w0 hI hF=>?_) (fun K hK v w0 hv=>?_);rotate_left 2;(· go_simp;(constructor <;> rfl));(· exact (GR (some ⟨g_s,0,none⟩) 2 [p1,p2] (by simp) HR.out w0 (InV.of ((hF 13 (by kernel_rfl)).2 rfl) rfl)).mono (fun _ _ h=>⟨_,h.1,h.2,rfl⟩));(replace hv:v=.string (AQ [p1,p2]):=hv;subst hv;clear w0;simp only [Act.put,lA1,lZ1,lS1];refine hK _ _ ?_;clear hK K))
   iterate 2 (refine Abs.step_pure rfl rfl (fun K hK=>?_);go_simp;(try go_bits);(first|refine hK _ _ ?_|(simp only [↓IntWalk.iteOmega];go_simp;(try go_bits);refine hK _ _ ?_));clear hK K)
   (intro w8 hb8 hx0 hx1 hx2;clear hx0 hx1 hx2;simp only [Abs.T_setF,Abs.T_addA,Abs.T_push,Abs.T_start])
   have hb9:=bB hb hb8
   go_wp2_with fail
   go_roundw
   case rel=>exact ⟨k+1,_,by go_num,rfl,by omega,AA HTT.out.symm,hb9⟩
   case measure=>simp [intOf];omega
  ·have e1:decide ((k:Int)<(c.pts.length:Int))=false:=decide_eq_false (by omega)
   have HS:Hid (s=AP c):=AA (by rw [<-HS0.out,HT.out,List.take_of_length_le (by omega)])
   have hSz:s.size<=10000:=by rw [HS.out];exact hrs
   have HB:=AA (bB HBw7.out hb)
   have f:=gb
   go_wp2_with fail
   clear z29 z24 z26 gb fb HBw7
   refine (I5 s hSz _).mono ?_
   rintro e w4 hp4
   rw [GN] at hp4
   cases hpl:AZ s with
   | none=>
    rw [hpl] at hp4
    obtain ⟨Y,rfl,hYs,hY1,hb4⟩:=hp4
    have HN:Hid (BV c none):=AA (by show AZ (AP c)≠some c;rw [<-HS.out,hpl];intro h;cases h)
    have HB4:=AA (bB HB.out hb4)
    clear hb4 hpl f
    go_wp2_with (refine AG rfl _ _ _ rfl w4.heap.size 48 _ Y rfl rfl (na w4 AD 48) (by rw [AE,hYs]) (by rw [hYs];rfl) hY1 ?_;simp only [Act.put];generalize hT5:setRow _ _ _=w5;obtain ⟨hx5,f5⟩:=AK (b0 _) (na w4 AD 48) hT5;have HB5:=AA (bB HB4.out (bX (bA (b0 w4) (.cells AD 48)) hx5 (Nat.le_refl _)));clear hT5 hx5)
    go_ret2
    exact ⟨none,rfl,HN.out,HB5.out⟩
   | some c'=>
    rw [hpl] at hp4
    obtain ⟨v,rfl,hk',hb4⟩:=hp4
    obtain ⟨A',ac',M',mc',rfl,hA',hM'⟩:=hk'.k
    obtain ⟨Y,hY⟩:∃Y,Y=c'.cs A' ac' M' mc':=⟨_,rfl⟩
    have hYs:Y.size=19:=by rw [hY];rfl
    have hY1:Y.all (·.oneCell')=true:=by rw [hY];exact BB _ _ _ _ _ _
    rw [<-hY]
    have HY:=AA hY
    have HB4:=AA (bB HB.out hb4)
    have f4:=kp hb4 f
    have HP:=AA hpl
    have HA':=AA hA'
    have HM':=AA hM'
    clear hb4 hY hk' hA' hM' hpl f
    go_wp2_with (first
     | (refine AG rfl _ _ _ rfl w4.heap.size 48 _ Y rfl rfl (na w4 AD 48) (by rw [AE,hYs]) (by rw [hYs];rfl) hY1 ?_;simp only [Act.put];generalize hT5:setRow _ _ _=w5;obtain ⟨hx5,g5⟩:=AK (b0 _) (na w4 AD 48) hT5;have HB45:=AA (bX (bA (b0 w4) (.cells AD 48)) hx5 (Nat.le_refl _));have f5:=kp HB45.out f4;clear hT5 hx5)
     | (refine DL rfl _ _ rfl w4.heap.size 48 Y rfl g5 _ rfl Tryz.underlying48 (by rw [AE,hYs]) ?_;simp only [Act.put,lA1,lZ1,lS1])
     | (refine DL rfl _ _ rfl w.heap.size 48 X rfl f5 _ rfl Tryz.underlying48 (by rw [AE,hXs]) ?_;simp only [Act.put,lA1,lZ1,lS1]))
    have HB5:=AA (bB HB4.out HB45.out)
    have c13:=IM c' c A' ac' M' mc' A ac M mc w5 (HA'.out.below HB45.out) (HM'.out.below HB45.out) (HA.out.below HB5.out) (HM.out.below HB5.out)
    rw [<-HY.out,<-HX.out] at c13
    refine c13.mono ?_
    rintro e w6 ⟨b,rfl,hbe,hb6⟩
    have HB6:=AA (bB HB5.out hb6)
    have HBE:=AA hbe
    clear hbe hb6 c13
    cases b
    ·have HN:Hid (BV c none):=AA (by
      show AZ (AP c)≠some c
      intro h2
      rw [<-HS.out,HP.out] at h2
      have:=HBE.out.2 (Option.some.inj h2)
      cases this)
     go_wp2_with fail
     go_ret2
     exact ⟨none,rfl,HN.out,HB6.out⟩
    ·have HN:Hid (BV c (some s)):=AA ⟨HS.out,by rw [HP.out,HBE.out.1 rfl]⟩
     go_wp2_with fail
     go_ret2
     exact ⟨some s,rfl,HN.out,HB6.out⟩
theorem tV (c:Cm) (hc:CmOK c) (hs:D1 c) (hm:c.masks.length<=310) (hp:c.pts.length<=40) (A:Option Addr) (ac:Nat) (M:Option Addr) (mc:Nat) (w:World) (hA:RK 99 2 w A c.pts.length ac (AU c.pts)) (hM:RK 3 1 w M c.masks.length mc (AH c.masks)) (hk:c.kind=1) (ho:c.ok=1) (h3:c.mkd≠3) :
  Calls Tryz.prog 17 #[.agg (c.cs A ac M mc)] w fun e w'=>∃r,G0 r e/\BV c r/\Below w.heap.size w w':=by
 obtain ⟨X,hX⟩:∃X,X=c.cs A ac M mc:=⟨_,rfl⟩
 have hXs:X.size=19:=by rw [hX];rfl
 have fb:=na w X 48
 have HBw1:=AA (bA (b0 w) (.cells X 48))
 have HX:=AA hX
 have HA:=AA hA
 have HM:=AA hM
 have HC:=AA hc
 have hrs:=JR hc hs hm hp
 obtain ⟨hs1,hs2,hs3⟩:=hs
 have fe:(w.alloc (.cells X 48)).heap[w.heap.size]?=some (.cells #[.int .i64 c.kind,.int .i64 c.ok,.int .i64 c.mkd,.string c.mn,.int .i64 c.me,.int .i64 c.mf,.int .i64 c.ms,.slice A c.pts.length ac,.int .i64 c.qk,.string c.qn,.int .i64 c.qa,.int .i64 c.qb,.int .i64 c.qw,.int .i64 c.qN,.string c.nm,.int .i64 c.t,.int .u64 c.bits,.int .i64 c.n,.slice M c.masks.length mc] 48 (0,0)):=by rw [hX];exact na _ _ _
 rw [hk,ho] at fe
 rw [<-hX]
 obtain ⟨w1,hw1⟩:∃w1,w.alloc (.cells X 48)=w1:=⟨_,rfl⟩
 rw [hw1] at fb fe HBw1
 have z48:=(AB fe).1
 clear hX hA hM hc fe
 go_enter Tryz.func17,Tryz.ntmps17
 go_wp2_with (first
  | (refine AG rfl _ _ _ rfl w1.heap.size 29 _ _ rfl rfl (na _ _ _) IV rfl (by simp [Value.oneCell']) ?_;simp only [Act.put];generalize hTw3:setRow _ _ _=w3;obtain ⟨hxw3,f29⟩:=AK (b0 _) (na w1 _ 29) hTw3;have HCw3:=AA (bX (bA (b0 w1) _) hxw3 (Nat.le_refl _));have HBw3:=AA (bB HBw1.out HCw3.out);have fb:=kp HCw3.out fb;have z29:=(AB f29).1;clear hTw3 hxw3 HCw3 HBw1 z48)
  | (refine AG rfl _ _ _ rfl w3.heap.size 24 _ _ rfl rfl (na _ _ _) AY rfl (by simp [Value.oneCell']) ?_;simp only [Act.put];generalize hTw5:setRow _ _ _=w5;obtain ⟨hxw5,f24⟩:=AK (b0 _) (na w3 _ 24) hTw5;have HCw5:=AA (bX (bA (b0 w3) _) hxw5 (Nat.le_refl _));have HBw5:=AA (bB HBw3.out HCw5.out);have fb:=kp HCw5.out fb;have f29:=kp HCw5.out f29;have z29:=(AB f29).1;have z24:=(AB f24).1;clear hTw5 hxw5 HCw5 HBw3)
  | (refine AG rfl _ _ _ rfl w5.heap.size 26 _ _ rfl rfl (na _ _ _) EY rfl (by simp [Value.oneCell']) ?_;simp only [Act.put];generalize hTw7:setRow _ _ _=w7;obtain ⟨hxw7,f26⟩:=AK (b0 _) (na w5 _ 26) hTw7;have HCw7:=AA (bX (bA (b0 w5) _) hxw7 (Nat.le_refl _));have HBw7:=AA (bB HBw5.out HCw7.out);have fb:=kp HCw7.out fb;have f29:=kp HCw7.out f29;have z29:=(AB f29).1;have f24:=kp HCw7.out f24;have z24:=(AB f24).1;have z26:=(AB f26).1;clear hTw7 hxw7 HCw7 HBw5;refine Hid.out ?_))
 by_cases k1:c.mkd=1
 focus
  obtain ⟨S,hS⟩:∃S:ByteArray,(⟨#[99,114,101,97,116,101,32]⟩:ByteArray)++c.mn++AQ [c.me,c.ms]=S:=⟨_,rfl⟩
  have HS:Hid (S=AP c):=AA (by rw [<-hS];unfold AP;rw [hk,if_neg (by decide),if_neg (by decide),if_neg (by decide),ho,if_pos rfl,k1];rfl)
  have hSz:S.size<=10000:=by rw [HS.out];exact hrs
  clear hrs hk ho
  have hrz:=SS HC.out.me HC.out.ms
  have HR:=AA (KZ HC.out.me HC.out.ms)
  refine AA ?_
  go_wp2_with fail
  refine Abs.wp_region_abs (Abs.cls0 _) [0,1,2,3,4,5,6,7,8,9,10] (by kernel_rfl) (by kernel_rfl) (Below.refl _ _).drew ?_
  (refine Abs.step_pure rfl rfl (fun K hK=>?_);go_simp;(try go_bits);(first|refine hK _ _ ?_|(simp only [↓IntWalk.iteOmega];go_simp;(try go_bits);refine hK _ _ ?_));clear hK K)
  (refine Abs.step_load (v:=?_) rfl rfl (by kernel_rfl) rfl (fun w0 hI=>?_) (fun K hK=>?_);rotate_left;(· have z0:=(AB (kp hI (f24))).1;go_simp;rfl);(simp only [Act.put,lA1,lZ1,lS1];refine hK _ _ ?_;clear hK K))
  iterate 2 (refine Abs.step_pure rfl rfl (fun K hK=>?_);go_simp;(try go_bits);(first|refine hK _ _ ?_|(simp only [↓IntWalk.iteOmega];go_simp;(try go_bits);refine hK _ _ ?_));clear hK K)
  (refine Abs.step_load (v:=?_) rfl rfl (by kernel_rfl) rfl (fun w0 hI=>?_) (fun K hK=>?_);rotate_left;(· have z0:=(AB (kp hI (f24))).1;go_simp;rfl);(simp only [Act.put,lA1,lZ1,lS1];refine hK _ _ ?_;clear hK K))
  (refine Abs.step_pure rfl rfl (fun K hK=>?_);go_simp;(try go_bits);(first|refine hK _ _ ?_|(simp only [↓IntWalk.iteOmega];go_simp;(try go_bits);refine hK _ _ ?_));clear hK K)
  (refine Abs.step_load (v:=?_) rfl rfl (by kernel_rfl) rfl (fun w0 hI=>?_) (fun K hK=>?_);rotate_left;(· have z0:=(AB (kp hI (f24))).1;go_simp;rfl);(simp only [Act.put,lA1,lZ1,lS1];refine hK _ _ ?_;clear hK K))
  (refine Abs.step_new (f:=fun g=>.slice (some ⟨g,0,none⟩) 2 2) (obj:=(.cells #[.int .i64 c.me,.int .i64 c.ms] 2)) rfl rfl rfl rfl (fun w0=>?_) (fun K hK g_s hv_s hu_s=>?_);(· go_simp;try rfl);(simp only [Act.put,lA1,lZ1,lS1];refine hK _ _ ?_;clear hK K))
  (refine Abs.step_call (f:=?_) (args:=?_) rfl rfl rfl rfl (fun v _=>v=.string (AQ [c.me,c.ms])) (fun _ _ _ h _=>h) (fun w0=>?_) (fun w0 hI hF=>?_) (fun K hK v w0 hv=>?_);rotate_left 2;(· go_simp;(constructor <;> rfl));(· exact (GR (some ⟨g_s,0,none⟩) 2 [c.me,c.ms] (by simp) HR.out w0 (InV.of ((hF 7 (by kernel_rfl)).2 rfl) rfl)).mono (fun _ _ h=>⟨_,h.1,h.2,rfl⟩));(replace hv:v=.string (AQ [c.me,c.ms]):=hv;subst hv;clear w0;simp only [Act.put,lA1,lZ1,lS1];refine hK _ _ ?_;clear hK K))
  iterate 2 (refine Abs.step_pure rfl rfl (fun K hK=>?_);go_simp;(try go_bits);(first|refine hK _ _ ?_|(simp only [↓IntWalk.iteOmega];go_simp;(try go_bits);refine hK _ _ ?_));clear hK K)
  (intro w8 hb8 hx0 hx1 hx2;clear hx0 hx1 hx2;simp only [Abs.T_setF,Abs.T_addA,Abs.T_push,Abs.T_start])
  have HB:=AA (bB HBw7.out hb8)
  have f:=kp hb8 fb
  replace f29:=kp hb8 f29
  replace z29:=(AB f29).1
  replace f24:=kp hb8 f24
  replace z24:=(AB f24).1
  replace f26:=kp hb8 f26
  replace z26:=(AB f26).1
  clear hb8 fb HBw7
  try rw [hS]
  go_wp2_with fail
  clear z29 z24 z26
 rotate_left
 have n1:(c.mkd== 1)=false:=beq_eq_false_iff_ne.2 k1
 have d1:decide (c.mkd=1)=false:=decide_eq_false k1
 by_cases k2:c.mkd=2
 focus
  obtain ⟨S,hS⟩:∃S:ByteArray,(⟨#[100,114,111,112,32]⟩:ByteArray)++c.mn=S:=⟨_,rfl⟩
  have HS:Hid (S=AP c):=AA (by rw [<-hS];unfold AP;rw [hk,if_neg (by decide),if_neg (by decide),if_neg (by decide),ho,if_pos rfl,k2];rfl)
  have hSz:S.size<=10000:=by rw [HS.out];exact hrs
  clear hrs hk ho
  refine AA ?_
  go_wp2_with fail
  try rw [hS]
  have HB:=HBw7
  have f:=fb
  clear fb HBw7 z29 z24 z26
 rotate_left
 have n2:(c.mkd== 2)=false:=beq_eq_false_iff_ne.2 k2
 have d2:decide (c.mkd=2)=false:=decide_eq_false k2
 by_cases k4:c.mkd=4
 focus
  obtain ⟨S,hS⟩:∃S:ByteArray,(⟨#[114,101,116,97,105,110,32]⟩:ByteArray)++c.mn++AQ [c.mf]=S:=⟨_,rfl⟩
  have HS:Hid (S=AP c):=AA (by rw [<-hS];unfold AP;rw [hk,if_neg (by decide),if_neg (by decide),if_neg (by decide),ho,if_pos rfl,k4];rfl)
  have hSz:S.size<=10000:=by rw [HS.out];exact hrs
  clear hrs hk ho
  have hrz:=M7 HC.out.mf
  have HR:=AA (GI HC.out.mf)
  refine AA ?_
  go_wp2_with fail
  refine Abs.wp_region_abs (Abs.cls0 _) [0,1,2,3,4,5,6,7,8] (by kernel_rfl) (by kernel_rfl) (Below.refl _ _).drew ?_
  (refine Abs.step_pure rfl rfl (fun K hK=>?_);go_simp;(try go_bits);(first|refine hK _ _ ?_|(simp only [↓IntWalk.iteOmega];go_simp;(try go_bits);refine hK _ _ ?_));clear hK K)
  (refine Abs.step_load (v:=?_) rfl rfl (by kernel_rfl) rfl (fun w0 hI=>?_) (fun K hK=>?_);rotate_left;(· have z0:=(AB (kp hI (f24))).1;go_simp;rfl);(simp only [Act.put,lA1,lZ1,lS1];refine hK _ _ ?_;clear hK K))
  iterate 2 (refine Abs.step_pure rfl rfl (fun K hK=>?_);go_simp;(try go_bits);(first|refine hK _ _ ?_|(simp only [↓IntWalk.iteOmega];go_simp;(try go_bits);refine hK _ _ ?_));clear hK K)
  (refine Abs.step_load (v:=?_) rfl rfl (by kernel_rfl) rfl (fun w0 hI=>?_) (fun K hK=>?_);rotate_left;(· have z0:=(AB (kp hI (f24))).1;go_simp;rfl);(simp only [Act.put,lA1,lZ1,lS1];refine hK _ _ ?_;clear hK K))
  (refine Abs.step_new (f:=fun g=>.slice (some ⟨g,0,none⟩) 1 1) (obj:=(.cells #[.int .i64 c.mf] 2)) rfl rfl rfl rfl (fun w0=>?_) (fun K hK g_s hv_s hu_s=>?_);(· go_simp;try rfl);(simp only [Act.put,lA1,lZ1,lS1];refine hK _ _ ?_;clear hK K))
  (refine Abs.step_call (f:=?_) (args:=?_) rfl rfl rfl rfl (fun v _=>v=.string (AQ [c.mf])) (fun _ _ _ h _=>h) (fun w0=>?_) (fun w0 hI hF=>?_) (fun K hK v w0 hv=>?_);rotate_left 2;(· go_simp;(constructor <;> rfl));(· exact (GR (some ⟨g_s,0,none⟩) 1 [c.mf] (by simp) HR.out w0 (InV.of ((hF 5 (by kernel_rfl)).2 rfl) rfl)).mono (fun _ _ h=>⟨_,h.1,h.2,rfl⟩));(replace hv:v=.string (AQ [c.mf]):=hv;subst hv;clear w0;simp only [Act.put,lA1,lZ1,lS1];refine hK _ _ ?_;clear hK K))
  iterate 2 (refine Abs.step_pure rfl rfl (fun K hK=>?_);go_simp;(try go_bits);(first|refine hK _ _ ?_|(simp only [↓IntWalk.iteOmega];go_simp;(try go_bits);refine hK _ _ ?_));clear hK K)
  (intro w8 hb8 hx0 hx1 hx2;clear hx0 hx1 hx2;simp only [Abs.T_setF,Abs.T_addA,Abs.T_push,Abs.T_start])
  have HB:=AA (bB HBw7.out hb8)
  have f:=kp hb8 fb
  replace f29:=kp hb8 f29
  replace z29:=(AB f29).1
  replace f24:=kp hb8 f24
  replace z24:=(AB f24).1
  replace f26:=kp hb8 f26
  replace z26:=(AB f26).1
  clear hb8 fb HBw7
  try rw [hS]
  go_wp2_with fail
  clear z29 z24 z26
 rotate_left
 have n4:(c.mkd== 4)=false:=beq_eq_false_iff_ne.2 k4
 have d4:decide (c.mkd=4)=false:=decide_eq_false k4
 have n3:(c.mkd== 3)=false:=beq_eq_false_iff_ne.2 h3
 have d3:decide (c.mkd=3)=false:=decide_eq_false h3
 obtain ⟨S,hS⟩:∃S:ByteArray,S=⟨#[]⟩:=⟨_,rfl⟩
 have HS:Hid (S=AP c):=AA (by rw [hS];unfold AP;rw [hk,if_neg (by decide),if_neg (by decide),if_neg (by decide),ho,if_pos rfl,show M5 c.mkd c.mn c.me c.mf c.ms c.pts=⟨#[]⟩ by unfold M5;rw [if_neg k1,if_neg k2,if_neg h3,if_neg k4]])
 have hSz:S.size<=10000:=by rw [hS];decide
 refine AA ?_
 go_wp2_with fail
 rw [<-hS]
 clear hS
 have HB:=HBw7
 have f:=fb
 clear fb HBw7 z29 z24 z26
 all_goals
  refine (I5 S hSz _).mono ?_
  rintro e w4 hp4
  rw [GN] at hp4
  cases hpl:AZ S with
  | none=>
   rw [hpl] at hp4
   obtain ⟨Y,rfl,hYs,hY1,hb4⟩:=hp4
   have HN:Hid (BV c none):=AA (by show AZ (AP c)≠some c;rw [<-HS.out,hpl];intro h;cases h)
   have HB4:=AA (bB HB.out hb4)
   clear hb4 hpl f
   go_wp2_with (refine AG rfl _ _ _ rfl w4.heap.size 48 _ Y rfl rfl (na w4 AD 48) (by rw [AE,hYs]) (by rw [hYs];rfl) hY1 ?_;simp only [Act.put];generalize hT5:setRow _ _ _=w5;obtain ⟨hx5,f5⟩:=AK (b0 _) (na w4 AD 48) hT5;have HB5:=AA (bB HB4.out (bX (bA (b0 w4) (.cells AD 48)) hx5 (Nat.le_refl _)));clear hT5 hx5)
   go_ret2
   exact ⟨none,rfl,HN.out,HB5.out⟩
  | some c'=>
   rw [hpl] at hp4
   obtain ⟨v,rfl,hk',hb4⟩:=hp4
   obtain ⟨A',ac',M',mc',rfl,hA',hM'⟩:=hk'.k
   obtain ⟨Y,hY⟩:∃Y,Y=c'.cs A' ac' M' mc':=⟨_,rfl⟩
   have hYs:Y.size=19:=by rw [hY];rfl
   have hY1:Y.all (·.oneCell')=true:=by rw [hY];exact BB _ _ _ _ _ _
   rw [<-hY]
   have HY:=AA hY
   have HB4:=AA (bB HB.out hb4)
   have f4:=kp hb4 f
   have HP:=AA hpl
   have HA':=AA hA'
   have HM':=AA hM'
   clear hb4 hY hk' hA' hM' hpl f
   go_wp2_with (first
    | (refine AG rfl _ _ _ rfl w4.heap.size 48 _ Y rfl rfl (na w4 AD 48) (by rw [AE,hYs]) (by rw [hYs];rfl) hY1 ?_;simp only [Act.put];generalize hT5:setRow _ _ _=w5;obtain ⟨hx5,g5⟩:=AK (b0 _) (na w4 AD 48) hT5;have HB45:=AA (bX (bA (b0 w4) (.cells AD 48)) hx5 (Nat.le_refl _));have f5:=kp HB45.out f4;clear hT5 hx5)
    | (refine DL rfl _ _ rfl w4.heap.size 48 Y rfl g5 _ rfl Tryz.underlying48 (by rw [AE,hYs]) ?_;simp only [Act.put,lA1,lZ1,lS1])
    | (refine DL rfl _ _ rfl w.heap.size 48 X rfl f5 _ rfl Tryz.underlying48 (by rw [AE,hXs]) ?_;simp only [Act.put,lA1,lZ1,lS1]))
   have HB5:=AA (bB HB4.out HB45.out)
   have c13:=IM c' c A' ac' M' mc' A ac M mc w5 (HA'.out.below HB45.out) (HM'.out.below HB45.out) (HA.out.below HB5.out) (HM.out.below HB5.out)
   rw [<-HY.out,<-HX.out] at c13
   refine c13.mono ?_
   rintro e w6 ⟨b,rfl,hbe,hb6⟩
   have HB6:=AA (bB HB5.out hb6)
   have HBE:=AA hbe
   clear hbe hb6 c13
   cases b
   ·have HN:Hid (BV c none):=AA (by
     show AZ (AP c)≠some c
     intro h2
     rw [<-HS.out,HP.out] at h2
     have:=HBE.out.2 (Option.some.inj h2)
     cases this)
    go_wp2_with fail
    go_ret2
    exact ⟨none,rfl,HN.out,HB6.out⟩
   ·have HN:Hid (BV c (some S)):=AA ⟨HS.out,by rw [HP.out,HBE.out.1 rfl]⟩
    go_wp2_with fail
    go_ret2
    exact ⟨some S,rfl,HN.out,HB6.out⟩
end Go.Proofs.YtlnonecibpjcoaaGreatDoor
