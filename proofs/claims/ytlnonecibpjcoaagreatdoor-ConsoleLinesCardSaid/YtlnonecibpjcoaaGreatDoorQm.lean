/- The document's a. -/
import Derived.Test.YtlnonecibpjcoaaGreatDoorQl
set_option linter.all false
set_option maxRecDepth 100000
set_option maxHeartbeats 16000000
namespace Go.Proofs.YtlnonecibpjcoaaGreatDoor
open Go.RowKit
attribute [local go_sem] Oper.semAt_some
theorem tX (c:Cm) (hc:CmOK c) (hs:D1 c) (hm:c.masks.length<=310) (hp:c.pts.length<=40) (A:Option Addr) (ac:Nat) (M:Option Addr) (mc:Nat) (w:World) (hA:RK 99 2 w A c.pts.length ac (AU c.pts)) (hM:RK 3 1 w M c.masks.length mc (AH c.masks)) (hk:c.kind=1) (k1:c.ok≠1) (h5:c.ok≠5) :
  Calls Tryz.prog 17 #[.agg (c.cs A ac M mc)] w fun e w'=>∃r,G0 r e/\BV c r/\Below w.heap.size w w':=by
 have n5:(c.ok== 5)=false:=beq_eq_false_iff_ne.2 h5
 have d5:decide (c.ok=5)=false:=decide_eq_false h5
 obtain ⟨X,hX⟩:∃X,X=c.cs A ac M mc:=⟨_,rfl⟩
 have hXs:X.size=19:=by rw [hX];rfl
 have fb:=na w X 48
 have HBw1:=AA (bA (b0 w) (.cells X 48))
 have HX:=AA hX
 have HA:=AA hA
 have HM:=AA hM
 have HC:=AA hc
 have hrs:=JR hc hs hm hp
 obtain ⟨hs1,hs2,hs3⟩:=hs
 have fe:(w.alloc (.cells X 48)).heap[w.heap.size]?=some (.cells #[.int .i64 c.kind,.int .i64 c.ok,.int .i64 c.mkd,.string c.mn,.int .i64 c.me,.int .i64 c.mf,.int .i64 c.ms,.slice A c.pts.length ac,.int .i64 c.qk,.string c.qn,.int .i64 c.qa,.int .i64 c.qb,.int .i64 c.qw,.int .i64 c.qN,.string c.nm,.int .i64 c.t,.int .u64 c.bits,.int .i64 c.n,.slice M c.masks.length mc] 48 (0,0)):=by rw [hX];exact na _ _ _
 rw [hk] at fe
 rw [<-hX]
 obtain ⟨w1,hw1⟩:∃w1,w.alloc (.cells X 48)=w1:=⟨_,rfl⟩
 rw [hw1] at fb fe HBw1
 have z48:=(AB fe).1
 clear hX hA hM hc fe
 go_enter Tryz.func17,Tryz.ntmps17
 go_wp2_with (first
  | (refine AG rfl _ _ _ rfl w1.heap.size 29 _ _ rfl rfl (na _ _ _) IV rfl (by simp [Value.oneCell']) ?_;simp only [Act.put];generalize hTw3:setRow _ _ _=w3;obtain ⟨hxw3,f29⟩:=AK (b0 _) (na w1 _ 29) hTw3;have HCw3:=AA (bX (bA (b0 w1) _) hxw3 (Nat.le_refl _));have HBw3:=AA (bB HBw1.out HCw3.out);have fb:=kp HCw3.out fb;have z29:=(AB f29).1;clear hTw3 hxw3 HCw3 HBw1 z48)
  | (refine AG rfl _ _ _ rfl w3.heap.size 24 _ _ rfl rfl (na _ _ _) AY rfl (by simp [Value.oneCell']) ?_;simp only [Act.put];generalize hTw5:setRow _ _ _=w5;obtain ⟨hxw5,f24⟩:=AK (b0 _) (na w3 _ 24) hTw5;have HCw5:=AA (bX (bA (b0 w3) _) hxw5 (Nat.le_refl _));have HBw5:=AA (bB HBw3.out HCw5.out);have fb:=kp HCw5.out fb;have f29:=kp HCw5.out f29;have z29:=(AB f29).1;have z24:=(AB f24).1;clear hTw5 hxw5 HCw5 HBw3)
  | (refine AG rfl _ _ _ rfl w5.heap.size 26 _ _ rfl rfl (na _ _ _) EY rfl (by simp [Value.oneCell']) ?_;simp only [Act.put];generalize hTw7:setRow _ _ _=w7;obtain ⟨hxw7,f26⟩:=AK (b0 _) (na w5 _ 26) hTw7;have HCw7:=AA (bX (bA (b0 w5) _) hxw7 (Nat.le_refl _));have HBw7:=AA (bB HBw5.out HCw7.out);have fb:=kp HCw7.out fb;have f29:=kp HCw7.out f29;have z29:=(AB f29).1;have f24:=kp HCw7.out f24;have z24:=(AB f24).1;have z26:=(AB f26).1;clear hTw7 hxw7 HCw7 HBw5;refine Hid.out ?_))
 have n1:(c.ok== 1)=false:=beq_eq_false_iff_ne.2 k1
 have d1:decide (c.ok=1)=false:=decide_eq_false k1
 by_cases k2:c.ok=2
 focus
  obtain ⟨S,hS⟩:∃S:ByteArray,S=CV:=⟨_,rfl⟩
  have HS:Hid (S=AP c):=AA (by rw [hS];unfold AP;rw [hk,if_neg (by decide),if_neg (by decide),if_neg (by decide),if_neg k1,if_pos k2])
  have hSz:S.size<=10000:=by rw [hS];decide
  unfold CV at hS
  clear hrs hk
  have y29:=(AB (kp (bA (b0 w7) (.cells #[.string ⟨#[115,121,110,99]⟩,.string ⟨#[102,108,117,115,104]⟩,.string ⟨#[99,111,109,112,97,99,116]⟩] 9)) f29)).1
  have y24:=(AB (kp (bA (b0 w7) (.cells #[.string ⟨#[115,121,110,99]⟩,.string ⟨#[102,108,117,115,104]⟩,.string ⟨#[99,111,109,112,97,99,116]⟩] 9)) f24)).1
  have y26:=(AB (kp (bA (b0 w7) (.cells #[.string ⟨#[115,121,110,99]⟩,.string ⟨#[102,108,117,115,104]⟩,.string ⟨#[99,111,109,112,97,99,116]⟩] 9)) f26)).1
  refine AA ?_
  go_wp2_with fail
  have HB:=AA (bB HBw7.out (bA (b0 w7) (.cells #[.string ⟨#[115,121,110,99]⟩,.string ⟨#[102,108,117,115,104]⟩,.string ⟨#[99,111,109,112,97,99,116]⟩] 9)))
  have f:=kp (bA (b0 w7) (.cells #[.string ⟨#[115,121,110,99]⟩,.string ⟨#[102,108,117,115,104]⟩,.string ⟨#[99,111,109,112,97,99,116]⟩] 9)) fb
  generalize w7.alloc (.cells #[.string ⟨#[115,121,110,99]⟩,.string ⟨#[102,108,117,115,104]⟩,.string ⟨#[99,111,109,112,97,99,116]⟩] 9)=w8 at *
  rw [<-hS]
  clear fb HBw7 y29 y24 y26 z29 z24 z26 hS
 rotate_left
 have n2:(c.ok== 2)=false:=beq_eq_false_iff_ne.2 k2
 have d2:decide (c.ok=2)=false:=decide_eq_false k2
 by_cases k3:c.ok=3
 focus
  obtain ⟨S,hS⟩:∃S:ByteArray,S=CW:=⟨_,rfl⟩
  have HS:Hid (S=AP c):=AA (by rw [hS];unfold AP;rw [hk,if_neg (by decide),if_neg (by decide),if_neg (by decide),if_neg k1,if_neg k2,if_pos k3])
  have hSz:S.size<=10000:=by rw [hS];decide
  unfold CW at hS
  clear hrs hk
  have y29:=(AB (kp (bA (b0 w7) (.cells #[.string ⟨#[115,121,110,99]⟩,.string ⟨#[102,108,117,115,104]⟩,.string ⟨#[99,111,109,112,97,99,116]⟩] 9)) f29)).1
  have y24:=(AB (kp (bA (b0 w7) (.cells #[.string ⟨#[115,121,110,99]⟩,.string ⟨#[102,108,117,115,104]⟩,.string ⟨#[99,111,109,112,97,99,116]⟩] 9)) f24)).1
  have y26:=(AB (kp (bA (b0 w7) (.cells #[.string ⟨#[115,121,110,99]⟩,.string ⟨#[102,108,117,115,104]⟩,.string ⟨#[99,111,109,112,97,99,116]⟩] 9)) f26)).1
  refine AA ?_
  go_wp2_with fail
  have HB:=AA (bB HBw7.out (bA (b0 w7) (.cells #[.string ⟨#[115,121,110,99]⟩,.string ⟨#[102,108,117,115,104]⟩,.string ⟨#[99,111,109,112,97,99,116]⟩] 9)))
  have f:=kp (bA (b0 w7) (.cells #[.string ⟨#[115,121,110,99]⟩,.string ⟨#[102,108,117,115,104]⟩,.string ⟨#[99,111,109,112,97,99,116]⟩] 9)) fb
  generalize w7.alloc (.cells #[.string ⟨#[115,121,110,99]⟩,.string ⟨#[102,108,117,115,104]⟩,.string ⟨#[99,111,109,112,97,99,116]⟩] 9)=w8 at *
  rw [<-hS]
  clear fb HBw7 y29 y24 y26 z29 z24 z26 hS
 rotate_left
 have n3:(c.ok== 3)=false:=beq_eq_false_iff_ne.2 k3
 have d3:decide (c.ok=3)=false:=decide_eq_false k3
 by_cases k4:c.ok=4
 focus
  obtain ⟨S,hS⟩:∃S:ByteArray,S=CX:=⟨_,rfl⟩
  have HS:Hid (S=AP c):=AA (by rw [hS];unfold AP;rw [hk,if_neg (by decide),if_neg (by decide),if_neg (by decide),if_neg k1,if_neg k2,if_neg k3,if_pos k4])
  have hSz:S.size<=10000:=by rw [hS];decide
  unfold CX at hS
  clear hrs hk
  have y29:=(AB (kp (bA (b0 w7) (.cells #[.string ⟨#[115,121,110,99]⟩,.string ⟨#[102,108,117,115,104]⟩,.string ⟨#[99,111,109,112,97,99,116]⟩] 9)) f29)).1
  have y24:=(AB (kp (bA (b0 w7) (.cells #[.string ⟨#[115,121,110,99]⟩,.string ⟨#[102,108,117,115,104]⟩,.string ⟨#[99,111,109,112,97,99,116]⟩] 9)) f24)).1
  have y26:=(AB (kp (bA (b0 w7) (.cells #[.string ⟨#[115,121,110,99]⟩,.string ⟨#[102,108,117,115,104]⟩,.string ⟨#[99,111,109,112,97,99,116]⟩] 9)) f26)).1
  refine AA ?_
  go_wp2_with fail
  have HB:=AA (bB HBw7.out (bA (b0 w7) (.cells #[.string ⟨#[115,121,110,99]⟩,.string ⟨#[102,108,117,115,104]⟩,.string ⟨#[99,111,109,112,97,99,116]⟩] 9)))
  have f:=kp (bA (b0 w7) (.cells #[.string ⟨#[115,121,110,99]⟩,.string ⟨#[102,108,117,115,104]⟩,.string ⟨#[99,111,109,112,97,99,116]⟩] 9)) fb
  generalize w7.alloc (.cells #[.string ⟨#[115,121,110,99]⟩,.string ⟨#[102,108,117,115,104]⟩,.string ⟨#[99,111,109,112,97,99,116]⟩] 9)=w8 at *
  rw [<-hS]
  clear fb HBw7 y29 y24 y26 z29 z24 z26 hS
 rotate_left
 have n4:(c.ok== 4)=false:=beq_eq_false_iff_ne.2 k4
 have d4:decide (c.ok=4)=false:=decide_eq_false k4
 by_cases k6:c.ok=6
 focus
  obtain ⟨bn,hbn⟩:∃bn:Nat,c.bits=(bn:Int):=⟨c.bits.toNat,by have:=HC.out.bits.1;omega⟩
  have hbn2:bn<18446744073709551616:=by have:=HC.out.bits.2;omega
  obtain ⟨H,hH⟩:∃H,H=FO bn:=⟨_,rfl⟩
  have cH:=fun W=>tN bn hbn2 W
  have hHz:=X6 bn
  rw [<-hH] at cH hHz
  have hrz:=M7 HC.out.t
  have HR:=AA (GI HC.out.t)
  obtain ⟨S,hS⟩:∃S:ByteArray,(⟨#[114,101,97,100,32]⟩:ByteArray)++c.nm++AQ [c.t]++⟨#[32]⟩++H=S:=⟨_,rfl⟩
  have HS:Hid (S=AP c):=AA (by rw [<-hS,hH];unfold AP;rw [hk,if_neg (by decide),if_neg (by decide),if_neg (by decide),if_neg k1,if_neg k2,if_neg k3,if_neg k4,if_neg h5,if_pos k6,hbn,Int.toNat_natCast];rfl)
  have hSz:S.size<=10000:=by rw [HS.out];exact hrs
  clear hrs hk hH
  refine AA ?_
  go_wp2_with fail
  refine Abs.wp_region_abs (Abs.cls0 _) [0,1,2,3,4,5,6,7,8,9,10,11,12,13] (by kernel_rfl) (by kernel_rfl) (Below.refl _ _).drew ?_
  (refine Abs.step_pure rfl rfl (fun K hK=>?_);go_simp;(try go_bits);(first|refine hK _ _ ?_|(simp only [↓IntWalk.iteOmega];go_simp;(try go_bits);refine hK _ _ ?_));clear hK K)
  (refine Abs.step_load (v:=?_) rfl rfl (by kernel_rfl) rfl (fun w0 hI=>?_) (fun K hK=>?_);rotate_left;(· have z0:=(AB (kp hI (f29))).1;go_simp;rfl);(simp only [Act.put,lA1,lZ1,lS1];refine hK _ _ ?_;clear hK K))
  iterate 2 (refine Abs.step_pure rfl rfl (fun K hK=>?_);go_simp;(try go_bits);(first|refine hK _ _ ?_|(simp only [↓IntWalk.iteOmega];go_simp;(try go_bits);refine hK _ _ ?_));clear hK K)
  (refine Abs.step_load (v:=?_) rfl rfl (by kernel_rfl) rfl (fun w0 hI=>?_) (fun K hK=>?_);rotate_left;(· have z0:=(AB (kp hI (f29))).1;go_simp;rfl);(simp only [Act.put,lA1,lZ1,lS1];refine hK _ _ ?_;clear hK K))
  (refine Abs.step_new (f:=fun g=>.slice (some ⟨g,0,none⟩) 1 1) (obj:=(.cells #[.int .i64 c.t] 2)) rfl rfl rfl rfl (fun w0=>?_) (fun K hK g_s hv_s hu_s=>?_);(· go_simp;try rfl);(simp only [Act.put,lA1,lZ1,lS1];refine hK _ _ ?_;clear hK K))
  (refine Abs.step_call (f:=?_) (args:=?_) rfl rfl rfl rfl (fun v _=>v=.string (AQ [c.t])) (fun _ _ _ h _=>h) (fun w0=>?_) (fun w0 hI hF=>?_) (fun K hK v w0 hv=>?_);rotate_left 2;(· go_simp;(constructor <;> rfl));(· exact (GR (some ⟨g_s,0,none⟩) 1 [c.t] (by simp) HR.out w0 (InV.of ((hF 5 (by kernel_rfl)).2 rfl) rfl)).mono (fun _ _ h=>⟨_,h.1,h.2,rfl⟩));(replace hv:v=.string (AQ [c.t]):=hv;subst hv;clear w0;simp only [Act.put,lA1,lZ1,lS1];refine hK _ _ ?_;clear hK K))
  iterate 3 (refine Abs.step_pure rfl rfl (fun K hK=>?_);go_simp;(try go_bits);(first|refine hK _ _ ?_|(simp only [↓IntWalk.iteOmega];go_simp;(try go_bits);refine hK _ _ ?_));clear hK K)
  (refine Abs.step_load (v:=?_) rfl rfl (by kernel_rfl) rfl (fun w0 hI=>?_) (fun K hK=>?_);rotate_left;(· have z0:=(AB (kp hI (f29))).1;go_simp;rfl);(simp only [Act.put,lA1,lZ1,lS1];refine hK _ _ ?_;clear hK K))
  (refine Abs.step_call_val (f:=?_) (args:=?_) (v:=?_) rfl rfl rfl rfl (fun w0=>?_) (fun w0 hI=>?_) (fun K hK=>?_);rotate_left 3;(· go_simp;(constructor <;> rfl));(· exact cH _);(simp only [Act.put,lA1,lZ1,lS1];refine hK _ _ ?_;clear hK K))
  iterate 2 (refine Abs.step_pure rfl rfl (fun K hK=>?_);go_simp;(try go_bits);(first|refine hK _ _ ?_|(simp only [↓IntWalk.iteOmega];go_simp;(try go_bits);refine hK _ _ ?_));clear hK K)
  (intro w8 hb8 hx0 hx1 hx2;clear hx0 hx1 hx2;simp only [Abs.T_setF,Abs.T_addA,Abs.T_push,Abs.T_start])
  have HB:=AA (bB HBw7.out hb8)
  have f:=kp hb8 fb
  replace f29:=kp hb8 f29
  replace z29:=(AB f29).1
  replace f24:=kp hb8 f24
  replace z24:=(AB f24).1
  replace f26:=kp hb8 f26
  replace z26:=(AB f26).1
  clear hb8 fb HBw7
  try rw [hS]
  go_wp2_with fail
  clear z29 z24 z26
 rotate_left
 have n6:(c.ok== 6)=false:=beq_eq_false_iff_ne.2 k6
 have d6:decide (c.ok=6)=false:=decide_eq_false k6
 by_cases hl:c.ok<1
 focus
  have q1:decide ((2:Int)<=c.ok)=false:=decide_eq_false (by omega)
  obtain ⟨S,hS⟩:∃S:ByteArray,S=⟨#[]⟩:=⟨_,rfl⟩
  have HS:Hid (S=AP c):=AA (by rw [hS];unfold AP;rw [hk,if_neg (by decide),if_neg (by decide),if_neg (by decide),if_neg k1,if_neg k2,if_neg k3,if_neg k4,if_neg h5,if_neg k6])
  have hSz:S.size<=10000:=by rw [hS];decide
  refine AA ?_
  go_wp2_with fail
  rw [<-hS]
  clear hS
  have HB:=HBw7
  have f:=fb
  clear fb HBw7 z29 z24 z26
 rotate_left
 have q1:decide ((2:Int)<=c.ok)=true:=decide_eq_true (by omega)
 have q2:decide (c.ok<=(4:Int))=false:=decide_eq_false (by omega)
 obtain ⟨S,hS⟩:∃S:ByteArray,S=⟨#[]⟩:=⟨_,rfl⟩
 have HS:Hid (S=AP c):=AA (by rw [hS];unfold AP;rw [hk,if_neg (by decide),if_neg (by decide),if_neg (by decide),if_neg k1,if_neg k2,if_neg k3,if_neg k4,if_neg h5,if_neg k6])
 have hSz:S.size<=10000:=by rw [hS];decide
 refine AA ?_
 go_wp2_with fail
 rw [<-hS]
 clear hS
 have HB:=HBw7
 have f:=fb
 clear fb HBw7 z29 z24 z26
 all_goals
  refine (I5 S hSz _).mono ?_
  rintro e w4 hp4
  rw [GN] at hp4
  cases hpl:AZ S with
  | none=>
   rw [hpl] at hp4
   obtain ⟨Y,rfl,hYs,hY1,hb4⟩:=hp4
   have HN:Hid (BV c none):=AA (by show AZ (AP c)≠some c;rw [<-HS.out,hpl];intro h;cases h)
   have HB4:=AA (bB HB.out hb4)
   clear hb4 hpl f
   go_wp2_with (refine AG rfl _ _ _ rfl w4.heap.size 48 _ Y rfl rfl (na w4 AD 48) (by rw [AE,hYs]) (by rw [hYs];rfl) hY1 ?_;simp only [Act.put];generalize hT5:setRow _ _ _=w5;obtain ⟨hx5,f5⟩:=AK (b0 _) (na w4 AD 48) hT5;have HB5:=AA (bB HB4.out (bX (bA (b0 w4) (.cells AD 48)) hx5 (Nat.le_refl _)));clear hT5 hx5)
   go_ret2
   exact ⟨none,rfl,HN.out,HB5.out⟩
  | some c'=>
   rw [hpl] at hp4
   obtain ⟨v,rfl,hk',hb4⟩:=hp4
   obtain ⟨A',ac',M',mc',rfl,hA',hM'⟩:=hk'.k
   obtain ⟨Y,hY⟩:∃Y,Y=c'.cs A' ac' M' mc':=⟨_,rfl⟩
   have hYs:Y.size=19:=by rw [hY];rfl
   have hY1:Y.all (·.oneCell')=true:=by rw [hY];exact BB _ _ _ _ _ _
   rw [<-hY]
   have HY:=AA hY
   have HB4:=AA (bB HB.out hb4)
   have f4:=kp hb4 f
   have HP:=AA hpl
   have HA':=AA hA'
   have HM':=AA hM'
   clear hb4 hY hk' hA' hM' hpl f
   go_wp2_with (first
    | (refine AG rfl _ _ _ rfl w4.heap.size 48 _ Y rfl rfl (na w4 AD 48) (by rw [AE,hYs]) (by rw [hYs];rfl) hY1 ?_;simp only [Act.put];generalize hT5:setRow _ _ _=w5;obtain ⟨hx5,g5⟩:=AK (b0 _) (na w4 AD 48) hT5;have HB45:=AA (bX (bA (b0 w4) (.cells AD 48)) hx5 (Nat.le_refl _));have f5:=kp HB45.out f4;clear hT5 hx5)
    | (refine DL rfl _ _ rfl w4.heap.size 48 Y rfl g5 _ rfl Tryz.underlying48 (by rw [AE,hYs]) ?_;simp only [Act.put,lA1,lZ1,lS1])
    | (refine DL rfl _ _ rfl w.heap.size 48 X rfl f5 _ rfl Tryz.underlying48 (by rw [AE,hXs]) ?_;simp only [Act.put,lA1,lZ1,lS1]))
   have HB5:=AA (bB HB4.out HB45.out)
   have c13:=IM c' c A' ac' M' mc' A ac M mc w5 (HA'.out.below HB45.out) (HM'.out.below HB45.out) (HA.out.below HB5.out) (HM.out.below HB5.out)
   rw [<-HY.out,<-HX.out] at c13
   refine c13.mono ?_
   rintro e w6 ⟨b,rfl,hbe,hb6⟩
   have HB6:=AA (bB HB5.out hb6)
   have HBE:=AA hbe
   clear hbe hb6 c13
   cases b
   ·have HN:Hid (BV c none):=AA (by
     show AZ (AP c)≠some c
     intro h2
     rw [<-HS.out,HP.out] at h2
     have:=HBE.out.2 (Option.some.inj h2)
     cases this)
    go_wp2_with fail
    go_ret2
    exact ⟨none,rfl,HN.out,HB6.out⟩
   ·have HN:Hid (BV c (some S)):=AA ⟨HS.out,by rw [HP.out,HBE.out.1 rfl]⟩
    go_wp2_with fail
    go_ret2
    exact ⟨some S,rfl,HN.out,HB6.out⟩
theorem tY (c:Cm) (hc:CmOK c) (hs:D1 c) (hm:c.masks.length<=310) (hp:c.pts.length<=40) (A:Option Addr) (ac:Nat) (M:Option Addr) (mc:Nat) (w:World) (hA:RK 99 2 w A c.pts.length ac (AU c.pts)) (hM:RK 3 1 w M c.masks.length mc (AH c.masks)) (hk:c.kind=1) (ho:c.ok=5) :
  Calls Tryz.prog 17 #[.agg (c.cs A ac M mc)] w fun e w'=>∃r,G0 r e/\BV c r/\Below w.heap.size w w':=by
 obtain ⟨X,hX⟩:∃X,X=c.cs A ac M mc:=⟨_,rfl⟩
 have hXs:X.size=19:=by rw [hX];rfl
 have fb:=na w X 48
 have HBw1:=AA (bA (b0 w) (.cells X 48))
 have HX:=AA hX
 have HA:=AA hA
 have HM:=AA hM
 have HC:=AA hc
 have hrs:=JR hc hs hm hp
 obtain ⟨hs1,hs2,hs3⟩:=hs
 have fe:(w.alloc (.cells X 48)).heap[w.heap.size]?=some (.cells #[.int .i64 c.kind,.int .i64 c.ok,.int .i64 c.mkd,.string c.mn,.int .i64 c.me,.int .i64 c.mf,.int .i64 c.ms,.slice A c.pts.length ac,.int .i64 c.qk,.string c.qn,.int .i64 c.qa,.int .i64 c.qb,.int .i64 c.qw,.int .i64 c.qN,.string c.nm,.int .i64 c.t,.int .u64 c.bits,.int .i64 c.n,.slice M c.masks.length mc] 48 (0,0)):=by rw [hX];exact na _ _ _
 rw [hk,ho] at fe
 rw [<-hX]
 obtain ⟨w1,hw1⟩:∃w1,w.alloc (.cells X 48)=w1:=⟨_,rfl⟩
 rw [hw1] at fb fe HBw1
 have z48:=(AB fe).1
 clear hX hA hM hc fe
 go_enter Tryz.func17,Tryz.ntmps17
 go_wp2_with (first
  | (refine AG rfl _ _ _ rfl w1.heap.size 29 _ _ rfl rfl (na _ _ _) IV rfl (by simp [Value.oneCell']) ?_;simp only [Act.put];generalize hTw3:setRow _ _ _=w3;obtain ⟨hxw3,f29⟩:=AK (b0 _) (na w1 _ 29) hTw3;have HCw3:=AA (bX (bA (b0 w1) _) hxw3 (Nat.le_refl _));have HBw3:=AA (bB HBw1.out HCw3.out);have fb:=kp HCw3.out fb;have z29:=(AB f29).1;clear hTw3 hxw3 HCw3 HBw1 z48)
  | (refine AG rfl _ _ _ rfl w3.heap.size 24 _ _ rfl rfl (na _ _ _) AY rfl (by simp [Value.oneCell']) ?_;simp only [Act.put];generalize hTw5:setRow _ _ _=w5;obtain ⟨hxw5,f24⟩:=AK (b0 _) (na w3 _ 24) hTw5;have HCw5:=AA (bX (bA (b0 w3) _) hxw5 (Nat.le_refl _));have HBw5:=AA (bB HBw3.out HCw5.out);have fb:=kp HCw5.out fb;have f29:=kp HCw5.out f29;have z29:=(AB f29).1;have z24:=(AB f24).1;clear hTw5 hxw5 HCw5 HBw3)
  | (refine AG rfl _ _ _ rfl w5.heap.size 26 _ _ rfl rfl (na _ _ _) EY rfl (by simp [Value.oneCell']) ?_;simp only [Act.put];generalize hTw7:setRow _ _ _=w7;obtain ⟨hxw7,f26⟩:=AK (b0 _) (na w5 _ 26) hTw7;have HCw7:=AA (bX (bA (b0 w5) _) hxw7 (Nat.le_refl _));have HBw7:=AA (bB HBw5.out HCw7.out);have fb:=kp HCw7.out fb;have f29:=kp HCw7.out f29;have z29:=(AB f29).1;have f24:=kp HCw7.out f24;have z24:=(AB f24).1;have z26:=(AB f26).1;clear hTw7 hxw7 HCw7 HBw5;refine Hid.out ?_))
 by_cases hl:c.qk<1
 focus
  have q1:decide ((1:Int)<=c.qk)=false:=decide_eq_false (by omega)
  obtain ⟨S,hS⟩:∃S:ByteArray,S=⟨#[]⟩:=⟨_,rfl⟩
  have HS:Hid (S=AP c):=AA (by rw [hS];unfold AP;rw [hk,if_neg (by decide),if_neg (by decide),if_neg (by decide),ho,if_neg (by decide),if_neg (by decide),if_neg (by decide),if_neg (by decide),if_pos rfl,show EV c.qk c.qn c.qa c.qb c.qw c.qN=⟨#[]⟩ by unfold EV;rw [if_pos (.inl hl)]])
  have hSz:S.size<=10000:=by rw [hS];decide
  refine AA ?_
  go_wp2_with fail
  rw [<-hS]
  clear hS
  have HB:=HBw7
  have f:=fb
  clear fb HBw7 z29 z24 z26
 rotate_left
 by_cases hl2:8<c.qk
 focus
  have q1:decide ((1:Int)<=c.qk)=true:=decide_eq_true (by omega)
  have q2:decide (c.qk<=(8:Int))=false:=decide_eq_false (by omega)
  obtain ⟨S,hS⟩:∃S:ByteArray,S=⟨#[]⟩:=⟨_,rfl⟩
  have HS:Hid (S=AP c):=AA (by rw [hS];unfold AP;rw [hk,if_neg (by decide),if_neg (by decide),if_neg (by decide),ho,if_neg (by decide),if_neg (by decide),if_neg (by decide),if_neg (by decide),if_pos rfl,show EV c.qk c.qn c.qa c.qb c.qw c.qN=⟨#[]⟩ by unfold EV;rw [if_pos (.inr hl2)]])
  have hSz:S.size<=10000:=by rw [hS];decide
  refine AA ?_
  go_wp2_with fail
  rw [<-hS]
  clear hS
  have HB:=HBw7
  have f:=fb
  clear fb HBw7 z29 z24 z26
 rotate_left
 obtain ⟨k,hq⟩:∃k:Nat,c.qk=(k:Int):=⟨c.qk.toNat,by omega⟩
 have hk1:1<=k:=by omega
 have hk8:k<=8:=by omega
 have a1:decide ((1:Int)<=(k:Int))=true:=decide_eq_true (by omega)
 have a8:decide ((k:Int)<=8)=true:=decide_eq_true (by omega)
 clear hl hl2
 obtain ⟨W0,hW⟩:∃W0,W0=AW k:=⟨_,rfl⟩
 have cW:∀W,Calls Tryz.prog 40 #[.int .i64 (k:Int)] W fun e w'=>e=.returned (.string W0)/\Below W.heap.size W w':=fun W=>by rw [hW];exact GM k (by omega) W
 have hWz:=JQ k
 rw [<-hW] at hWz
 obtain ⟨S0,hS0⟩:∃S:ByteArray,W0++⟨#[32]⟩++c.qn=S:=⟨_,rfl⟩
 have HS0:Hid (S0=AW k++BP++c.qn):=AA (by rw [<-hS0,hW];rfl)
 have hS0z:S0.size<=1010:=by
  rw [<-hS0,ByteArray.size_append,ByteArray.size_append]
  have h1:(⟨#[32]⟩:ByteArray).size=1:=by decide
  omega
 clear hW
 refine AA ?_
 go_wp2_with fail
 refine Abs.wp_region_abs (Abs.cls0 _) [0,1,2,3,4,5,6,7] (by kernel_rfl) (by kernel_rfl) (Below.refl _ _).drew ?_
 (refine Abs.step_pure rfl rfl (fun K hK=>?_);go_simp;(try go_bits);(first|refine hK _ _ ?_|(simp only [↓IntWalk.iteOmega];go_simp;(try go_bits);refine hK _ _ ?_));clear hK K)
 (refine Abs.step_load (v:=?_) rfl rfl (by kernel_rfl) rfl (fun w0 hI=>?_) (fun K hK=>?_);rotate_left;(· have z0:=(AB (kp hI (f26))).1;go_simp;rfl);(simp only [Act.put,lA1,lZ1,lS1];refine hK _ _ ?_;clear hK K))
 (refine Abs.step_call_val (f:=?_) (args:=?_) (v:=?_) rfl rfl rfl rfl (fun w0=>?_) (fun w0 hI=>?_) (fun K hK=>?_);rotate_left 3;(· go_simp;(constructor <;> rfl));(· exact cW _);(simp only [Act.put,lA1,lZ1,lS1];refine hK _ _ ?_;clear hK K))
 iterate 2 (refine Abs.step_pure rfl rfl (fun K hK=>?_);go_simp;(try go_bits);(first|refine hK _ _ ?_|(simp only [↓IntWalk.iteOmega];go_simp;(try go_bits);refine hK _ _ ?_));clear hK K)
 (refine Abs.step_load (v:=?_) rfl rfl (by kernel_rfl) rfl (fun w0 hI=>?_) (fun K hK=>?_);rotate_left;(· have z0:=(AB (kp hI (f26))).1;go_simp;rfl);(simp only [Act.put,lA1,lZ1,lS1];refine hK _ _ ?_;clear hK K))
 iterate 2 (refine Abs.step_pure rfl rfl (fun K hK=>?_);go_simp;(try go_bits);(first|refine hK _ _ ?_|(simp only [↓IntWalk.iteOmega];go_simp;(try go_bits);refine hK _ _ ?_));clear hK K)
 (intro w8 hb8 hx0 hx1 hx2;clear hx0 hx1 hx2;simp only [Abs.T_setF,Abs.T_addA,Abs.T_push,Abs.T_start])
 have HB:=AA (bB HBw7.out hb8)
 have f:=kp hb8 fb
 replace f29:=kp hb8 f29
 replace z29:=(AB f29).1
 replace f24:=kp hb8 f24
 replace z24:=(AB f24).1
 replace f26:=kp hb8 f26
 replace z26:=(AB f26).1
 clear hb8 fb HBw7
 try rw [hS0]
 clear hS0 cW hWz
 by_cases q6:k=6
 focus
  subst q6
  obtain ⟨R,hR⟩:∃R,R=AQ [c.qa]:=⟨_,rfl⟩
  have hrz:=M7 HC.out.qa
  rw [<-hR] at hrz
  have HR:=AA (GI HC.out.qa)
  have HRR:=AA hR
  clear hR
  obtain ⟨S,hS⟩:∃S:ByteArray,S0++R=S:=⟨_,rfl⟩
  have HS:Hid (S=AP c):=AA (by rw [<-hS,HS0.out,HRR.out];unfold AP;rw [hk,if_neg (by decide),if_neg (by decide),if_neg (by decide),ho,if_neg (by decide),if_neg (by decide),if_neg (by decide),if_neg (by decide),if_pos rfl,hq];unfold EV;rw [if_neg (by decide),if_pos (by decide)])
  have hSz:S.size<=10000:=by rw [HS.out];exact hrs
  clear hrs hk ho
  go_wp2_with fail
  have cR:=GR (some ⟨w8.heap.size,0,none⟩) 1 [c.qa] (by simp) HR.out (w8.alloc (.cells #[.int .i64 c.qa] 2)) (InV.of (na w8 #[.int .i64 c.qa] 2) rfl)
  rw [<-HRR.out] at cR
  refine cR.mono ?_
  rintro e w9 ⟨rfl,hb9⟩
  replace hb9:=bB (bA (b0 w8) (.cells #[.int .i64 c.qa] 2)) hb9
  replace HB:=AA (bB HB.out hb9)
  replace f:=kp hb9 f
  replace f29:=kp hb9 f29
  replace f24:=kp hb9 f24
  replace f26:=kp hb9 f26
  replace z29:=(AB f29).1
  replace z24:=(AB f24).1
  replace z26:=(AB f26).1
  clear cR hb9
  go_wp2_with fail
  try rw [hS]
  clear z29 z24 z26
 rotate_left
 have m6:¬(k:Int)=6:=by omega
 have n6:((k:Int)== 6)=false:=beq_eq_false_iff_ne.2 m6
 have d6:decide ((k:Int)=6)=false:=decide_eq_false m6
 by_cases q8:k≠8
 focus
  have a9:decide ((k:Int)<8)=true:=decide_eq_true (by omega)
  obtain ⟨R,hR⟩:∃R,R=AQ [c.qa,c.qb]:=⟨_,rfl⟩
  have hrz:=SS HC.out.qa HC.out.qb
  rw [<-hR] at hrz
  have HR:=AA (KZ HC.out.qa HC.out.qb)
  have HRR:=AA hR
  clear hR
  obtain ⟨S,hS⟩:∃S:ByteArray,S0++R=S:=⟨_,rfl⟩
  have HS:Hid (S=AP c):=AA (by rw [<-hS,HS0.out,HRR.out];unfold AP;rw [hk,if_neg (by decide),if_neg (by decide),if_neg (by decide),ho,if_neg (by decide),if_neg (by decide),if_neg (by decide),if_neg (by decide),if_pos rfl,hq];unfold EV;rw [if_neg (by omega),if_neg (by omega),if_neg (by omega),Int.toNat_natCast])
  have hSz:S.size<=10000:=by rw [HS.out];exact hrs
  clear hrs hk ho
  go_wp2_with fail
  have cR:=GR (some ⟨w8.heap.size,0,none⟩) 2 [c.qa,c.qb] (by simp) HR.out (w8.alloc (.cells #[.int .i64 c.qa,.int .i64 c.qb] 2)) (InV.of (na w8 #[.int .i64 c.qa,.int .i64 c.qb] 2) rfl)
  rw [<-HRR.out] at cR
  refine cR.mono ?_
  rintro e w9 ⟨rfl,hb9⟩
  replace hb9:=bB (bA (b0 w8) (.cells #[.int .i64 c.qa,.int .i64 c.qb] 2)) hb9
  replace HB:=AA (bB HB.out hb9)
  replace f:=kp hb9 f
  replace f29:=kp hb9 f29
  replace f24:=kp hb9 f24
  replace f26:=kp hb9 f26
  replace z29:=(AB f29).1
  replace z24:=(AB f24).1
  replace z26:=(AB f26).1
  clear cR hb9
  go_wp2_with fail
  try rw [hS]
  clear z29 z24 z26
 rotate_left
 obtain rfl:k=8:=by omega
 clear q6 q8 m6 n6 d6
 by_cases hl:c.qw<1
 focus
  have q1:decide ((1:Int)<=c.qw)=false:=decide_eq_false (by omega)
  obtain ⟨S,hS⟩:∃S,S=S0:=⟨_,rfl⟩
  have HS:Hid (S=AP c):=AA (by rw [hS,HS0.out];unfold AP;rw [hk,if_neg (by decide),if_neg (by decide),if_neg (by decide),ho,if_neg (by decide),if_neg (by decide),if_neg (by decide),if_neg (by decide),if_pos rfl,hq];unfold EV;rw [if_neg (by decide),if_neg (by decide),if_pos (by decide),if_pos (.inl hl)])
  have hSz:S.size<=10000:=by rw [hS];omega
  go_wp2_with fail
  rw [<-hS]
  clear hS z29 z24 z26
 rotate_left
 by_cases hl2:5<c.qw
 focus
  have q1:decide ((1:Int)<=c.qw)=true:=decide_eq_true (by omega)
  have q2:decide (c.qw<=(5:Int))=false:=decide_eq_false (by omega)
  obtain ⟨S,hS⟩:∃S,S=S0:=⟨_,rfl⟩
  have HS:Hid (S=AP c):=AA (by rw [hS,HS0.out];unfold AP;rw [hk,if_neg (by decide),if_neg (by decide),if_neg (by decide),ho,if_neg (by decide),if_neg (by decide),if_neg (by decide),if_neg (by decide),if_pos rfl,hq];unfold EV;rw [if_neg (by decide),if_neg (by decide),if_pos (by decide),if_pos (.inr hl2)])
  have hSz:S.size<=10000:=by rw [hS];omega
  go_wp2_with fail
  rw [<-hS]
  clear hS z29 z24 z26
 rotate_left
 obtain ⟨j,hj⟩:∃j:Nat,c.qw=(j:Int):=⟨c.qw.toNat,by omega⟩
 have hj1:1<=j:=by omega
 have hj5:j<=5:=by omega
 clear hl hl2
 obtain ⟨W1,hW1⟩:∃W1,W1=AW j:=⟨_,rfl⟩
 have cV:∀W,Calls Tryz.prog 40 #[.int .i64 (j:Int)] W fun e w'=>e=.returned (.string W1)/\Below W.heap.size W w':=fun W=>by rw [hW1];exact GM j (by omega) W
 have hVz:=JQ j
 rw [<-hW1] at hVz
 have a2:decide ((1:Int)<=(j:Int))=true:=decide_eq_true (by omega)
 have a5:decide ((j:Int)<=5)=true:=decide_eq_true (by omega)
 have hrz:=tQ HC.out.qa HC.out.qb HC.out.qN
 have HR:=AA (XY HC.out.qa HC.out.qb HC.out.qN)
 obtain ⟨S,hS⟩:∃S:ByteArray,S0++⟨#[32]⟩++W1++AQ [c.qa,c.qb,c.qN]=S:=⟨_,rfl⟩
 have HS:Hid (S=AP c):=AA (by rw [<-hS,HS0.out,hW1];unfold AP;rw [hk,if_neg (by decide),if_neg (by decide),if_neg (by decide),ho,if_neg (by decide),if_neg (by decide),if_neg (by decide),if_neg (by decide),if_pos rfl,hq];unfold EV;rw [if_neg (by decide),if_neg (by decide),if_pos (by decide),if_neg (by omega),hj,Int.toNat_natCast];rfl)
 have hSz:S.size<=10000:=by rw [HS.out];exact hrs
 clear hW1 hrs hk ho
 go_wp2_with fail
 refine Abs.wp_region_abs (Abs.cls0 _) [0,1,2,3,4,5,6,7,8,9,10,11,12,13,14,15] (by kernel_rfl) (by kernel_rfl) (Below.refl _ _).drew ?_
 iterate 3 (refine Abs.step_pure rfl rfl (fun K hK=>?_);go_simp;(try go_bits);(first|refine hK _ _ ?_|(simp only [↓IntWalk.iteOmega];go_simp;(try go_bits);refine hK _ _ ?_));clear hK K)
 (refine Abs.step_load (v:=?_) rfl rfl (by kernel_rfl) rfl (fun w0 hI=>?_) (fun K hK=>?_);rotate_left;(· have z0:=(AB (kp hI (f26))).1;go_simp;rfl);(simp only [Act.put,lA1,lZ1,lS1];refine hK _ _ ?_;clear hK K))
 (refine Abs.step_call_val (f:=?_) (args:=?_) (v:=?_) rfl rfl rfl rfl (fun w0=>?_) (fun w0 hI=>?_) (fun K hK=>?_);rotate_left 3;(· go_simp;(constructor <;> rfl));(· exact cV _);(simp only [Act.put,lA1,lZ1,lS1];refine hK _ _ ?_;clear hK K))
 iterate 2 (refine Abs.step_pure rfl rfl (fun K hK=>?_);go_simp;(try go_bits);(first|refine hK _ _ ?_|(simp only [↓IntWalk.iteOmega];go_simp;(try go_bits);refine hK _ _ ?_));clear hK K)
 (refine Abs.step_load (v:=?_) rfl rfl (by kernel_rfl) rfl (fun w0 hI=>?_) (fun K hK=>?_);rotate_left;(· have z0:=(AB (kp hI (f26))).1;go_simp;rfl);(simp only [Act.put,lA1,lZ1,lS1];refine hK _ _ ?_;clear hK K))
 (refine Abs.step_pure rfl rfl (fun K hK=>?_);go_simp;(try go_bits);(first|refine hK _ _ ?_|(simp only [↓IntWalk.iteOmega];go_simp;(try go_bits);refine hK _ _ ?_));clear hK K)
 (refine Abs.step_load (v:=?_) rfl rfl (by kernel_rfl) rfl (fun w0 hI=>?_) (fun K hK=>?_);rotate_left;(· have z0:=(AB (kp hI (f26))).1;go_simp;rfl);(simp only [Act.put,lA1,lZ1,lS1];refine hK _ _ ?_;clear hK K))
 (refine Abs.step_pure rfl rfl (fun K hK=>?_);go_simp;(try go_bits);(first|refine hK _ _ ?_|(simp only [↓IntWalk.iteOmega];go_simp;(try go_bits);refine hK _ _ ?_));clear hK K)
 (refine Abs.step_load (v:=?_) rfl rfl (by kernel_rfl) rfl (fun w0 hI=>?_) (fun K hK=>?_);rotate_left;(· have z0:=(AB (kp hI (f26))).1;go_simp;rfl);(simp only [Act.put,lA1,lZ1,lS1];refine hK _ _ ?_;clear hK K))
 (refine Abs.step_new (f:=fun g=>.slice (some ⟨g,0,none⟩) 3 3) (obj:=(.cells #[.int .i64 c.qa,.int .i64 c.qb,.int .i64 c.qN] 2)) rfl rfl rfl rfl (fun w0=>?_) (fun K hK g_s hv_s hu_s=>?_);(· go_simp;try rfl);(simp only [Act.put,lA1,lZ1,lS1];refine hK _ _ ?_;clear hK K))
 (refine Abs.step_call (f:=?_) (args:=?_) rfl rfl rfl rfl (fun v _=>v=.string (AQ [c.qa,c.qb,c.qN])) (fun _ _ _ h _=>h) (fun w0=>?_) (fun w0 hI hF=>?_) (fun K hK v w0 hv=>?_);rotate_left 2;(· go_simp;(constructor <;> rfl));(· exact (GR (some ⟨g_s,0,none⟩) 3 [c.qa,c.qb,c.qN] (by simp) HR.out w0 (InV.of ((hF 12 (by kernel_rfl)).2 rfl) rfl)).mono (fun _ _ h=>⟨_,h.1,h.2,rfl⟩));(replace hv:v=.string (AQ [c.qa,c.qb,c.qN]):=hv;subst hv;clear w0;simp only [Act.put,lA1,lZ1,lS1];refine hK _ _ ?_;clear hK K))
 iterate 2 (refine Abs.step_pure rfl rfl (fun K hK=>?_);go_simp;(try go_bits);(first|refine hK _ _ ?_|(simp only [↓IntWalk.iteOmega];go_simp;(try go_bits);refine hK _ _ ?_));clear hK K)
 (intro w9 hb9 hx0 hx1 hx2;clear hx0 hx1 hx2;simp only [Abs.T_setF,Abs.T_addA,Abs.T_push,Abs.T_start])
 replace HB:=AA (bB HB.out hb9)
 replace f:=kp hb9 f
 replace f29:=kp hb9 f29
 replace f24:=kp hb9 f24
 replace f26:=kp hb9 f26
 replace z29:=(AB f29).1
 replace z24:=(AB f24).1
 replace z26:=(AB f26).1
 clear hb9
 try rw [hS]
 go_wp2_with fail
 clear z29 z24 z26
 all_goals
  refine (I5 S hSz _).mono ?_
  rintro e w4 hp4
  rw [GN] at hp4
  cases hpl:AZ S with
  | none=>
   rw [hpl] at hp4
   obtain ⟨Y,rfl,hYs,hY1,hb4⟩:=hp4
   have HN:Hid (BV c none):=AA (by show AZ (AP c)≠some c;rw [<-HS.out,hpl];intro h;cases h)
   have HB4:=AA (bB HB.out hb4)
   clear hb4 hpl f
   go_wp2_with (refine AG rfl _ _ _ rfl w4.heap.size 48 _ Y rfl rfl (na w4 AD 48) (by rw [AE,hYs]) (by rw [hYs];rfl) hY1 ?_;simp only [Act.put];generalize hT5:setRow _ _ _=w5;obtain ⟨hx5,f5⟩:=AK (b0 _) (na w4 AD 48) hT5;have HB5:=AA (bB HB4.out (bX (bA (b0 w4) (.cells AD 48)) hx5 (Nat.le_refl _)));clear hT5 hx5)
   go_ret2
   exact ⟨none,rfl,HN.out,HB5.out⟩
  | some c'=>
   rw [hpl] at hp4
   obtain ⟨v,rfl,hk',hb4⟩:=hp4
   obtain ⟨A',ac',M',mc',rfl,hA',hM'⟩:=hk'.k
   obtain ⟨Y,hY⟩:∃Y,Y=c'.cs A' ac' M' mc':=⟨_,rfl⟩
   have hYs:Y.size=19:=by rw [hY];rfl
   have hY1:Y.all (·.oneCell')=true:=by rw [hY];exact BB _ _ _ _ _ _
   rw [<-hY]
   have HY:=AA hY
   have HB4:=AA (bB HB.out hb4)
   have f4:=kp hb4 f
   have HP:=AA hpl
   have HA':=AA hA'
   have HM':=AA hM'
   clear hb4 hY hk' hA' hM' hpl f
   go_wp2_with (first
    | (refine AG rfl _ _ _ rfl w4.heap.size 48 _ Y rfl rfl (na w4 AD 48) (by rw [AE,hYs]) (by rw [hYs];rfl) hY1 ?_;simp only [Act.put];generalize hT5:setRow _ _ _=w5;obtain ⟨hx5,g5⟩:=AK (b0 _) (na w4 AD 48) hT5;have HB45:=AA (bX (bA (b0 w4) (.cells AD 48)) hx5 (Nat.le_refl _));have f5:=kp HB45.out f4;clear hT5 hx5)
    | (refine DL rfl _ _ rfl w4.heap.size 48 Y rfl g5 _ rfl Tryz.underlying48 (by rw [AE,hYs]) ?_;simp only [Act.put,lA1,lZ1,lS1])
    | (refine DL rfl _ _ rfl w.heap.size 48 X rfl f5 _ rfl Tryz.underlying48 (by rw [AE,hXs]) ?_;simp only [Act.put,lA1,lZ1,lS1]))
   have HB5:=AA (bB HB4.out HB45.out)
   have c13:=IM c' c A' ac' M' mc' A ac M mc w5 (HA'.out.below HB45.out) (HM'.out.below HB45.out) (HA.out.below HB5.out) (HM.out.below HB5.out)
   rw [<-HY.out,<-HX.out] at c13
   refine c13.mono ?_
   rintro e w6 ⟨b,rfl,hbe,hb6⟩
   have HB6:=AA (bB HB5.out hb6)
   have HBE:=AA hbe
   clear hbe hb6 c13
   cases b
   ·have HN:Hid (BV c none):=AA (by
     show AZ (AP c)≠some c
     intro h2
     rw [<-HS.out,HP.out] at h2
     have:=HBE.out.2 (Option.some.inj h2)
     cases this)
    go_wp2_with fail
    go_ret2
    exact ⟨none,rfl,HN.out,HB6.out⟩
   ·have HN:Hid (BV c (some S)):=AA ⟨HS.out,by rw [HP.out,HBE.out.1 rfl]⟩
    go_wp2_with fail
    go_ret2
    exact ⟨some S,rfl,HN.out,HB6.out⟩
theorem tZ (c:Cm) (hc:CmOK c) (hs:D1 c) (hm:c.masks.length<=310) (hp:c.pts.length<=40) (A:Option Addr) (ac:Nat) (M:Option Addr) (mc:Nat) (w:World) (hA:RK 99 2 w A c.pts.length ac (AU c.pts)) (hM:RK 3 1 w M c.masks.length mc (AH c.masks)) :
  Calls Tryz.prog 17 #[.agg (c.cs A ac M mc)] w fun e w'=>∃r,G0 r e/\BV c r/\Below w.heap.size w w':=by
 by_cases h2:c.kind=2
 ·exact tR c hc hs hm hp A ac M mc w hA hM h2
 by_cases h3:c.kind=3
 ·exact tS c hc hs hm hp A ac M mc w hA hM h3
 by_cases h1:c.kind=1
 rotate_left
 ·exact tT c hc hs hm hp A ac M mc w hA hM h1 h2 h3
 by_cases o1:c.ok=1
 ·by_cases k3:c.mkd=3
  ·exact tU c hc hs hm hp A ac M mc w hA hM h1 o1 k3
  ·exact tV c hc hs hm hp A ac M mc w hA hM h1 o1 k3
 by_cases o5:c.ok=5
 ·exact tY c hc hs hm hp A ac M mc w hA hM h1 o5
 ·exact tX c hc hs hm hp A ac M mc w hA hM h1 o1 o5
end Go.Proofs.YtlnonecibpjcoaaGreatDoor
