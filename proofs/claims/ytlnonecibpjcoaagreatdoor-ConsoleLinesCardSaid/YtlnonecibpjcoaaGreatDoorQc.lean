/- The console's la. -/
import Derived.Deep.RegionHeld3
import Derived.Laws.IdiomStrings
import Derived.Shelf.Small.Bits
import Derived.Shelf.Utf8.RuneCount
import Derived.Shelf.Unicode.Decode
import Derived.Shelf.Strings.RuneCount
import Derived.Shelf.Strings.Explode
import Derived.Shelf.Unicode.DecodeAny
import Derived.Shelf.Slices.Turned
import Derived.Shelf.Slices.CompactI
import Derived.Shelf.Slices.SearchI
import Derived.Shelf.Slices.Cells
import Derived.Ground.SlgnProg
import Derived.Shelf.SlicesE.Clone
import Derived.Test.YtlnonecibpjcoaaGreatDoorPf
set_option linter.all false
set_option maxRecDepth 100000
set_option maxHeartbeats 16000000
namespace Go.Proofs.YtlnonecibpjcoaaGreatDoor
open Go.RowKit
attribute [local go_sem] Oper.semAt_some
def BR (w:World) (v:Value) (ss:List ByteArray):Prop:=∃A c,v=.slice A ss.length c/\RV 9 w A c (AC ss)
theorem BR.nil (w:World):BR w (.slice none 0 0) []:=⟨none,0,rfl,by simp [AC],by omega,fun h=>by simp [AC] at h⟩
theorem BR.of {B:Nat} {w:World} {v:Value} {ss:List ByteArray} (h:AX 9 B w v (AC ss)):BR w v ss:=by
 obtain ⟨A,c,e,h2⟩:=h.cr
 rw [BG] at e
 exact ⟨A,c,e,h2⟩
theorem BR.below {w w':World} {v:Value} {ss:List ByteArray} (h:BR w v ss) (hb:Below w.heap.size w w'):BR w' v ss:=by
 obtain ⟨A,c,e,h1,h2,h3⟩:=h
 refine ⟨A,c,e,h1,h2,fun hl=>?_⟩
 obtain ⟨g,o,cur,e1,hg,hc⟩:=h3 hl
 exact ⟨g,o,cur,e1,(hb.block g (Array.getElem?_eq_some_iff.1 hg).1).trans hg,hc⟩
def IK (l:List Int) (v:Value) (w:World):Prop:=∃A,v=.slice A l.length l.length/\RV 9 w A l.length (AC (l.map AJ))
theorem OS (l:List Int) {v:Value}:Abs.Cl (fun _=>False) (IK l v):=by
 intro w w' ⟨A,e,hr⟩ h
 refine ⟨A,e,hr.cap,hr.top,fun hl=>?_⟩
 obtain ⟨g,o,cur,e1,hg,hc⟩:=hr.mem hl
 exact ⟨g,o,cur,e1,(h.block g (Array.getElem?_eq_some_iff.1 hg).1 (fun hf=>hf)).trans hg,hc⟩
theorem IK.inV {l:List Int} {A:Option Addr} {n c:Nat} {w:World} (h:IK l (.slice A n c) w):n=l.length/\InV w A (AC (l.map AJ)):=by
 obtain ⟨A',e,hr⟩:=h
 injection e with e1 e2 e3
 subst e1
 exact ⟨e2,hr.inV⟩
theorem InV.at {w:World} {g:Nat} {T:TypeId} (vs:List Value) (h:w.heap[g]?=some (.cells vs.toArray T (0,0))):InV w (some ⟨g,0,none⟩) vs:=fun h0=>
 ⟨_,rfl,(Array.getElem?_eq_some_iff.1 h).1,fun i hi=>by
  rw [show (⟨g,0,none⟩:Addr).add i=⟨g,i,none⟩ by
   unfold Addr.add
   split
   ·next h0=>simp [h0]
   ·simp]
  rw [(AB h).1]
  simp [hi]⟩
theorem OT {w w0:World} {g n:Nat} (l:List Int) (hn:n=l.length) (hl:l.length<=1000000) (hi:∀x ∈ l,AF x) (hL:Laid w) (hI:Below w.heap.size w w0) (hg:w0.heap[g]?=some (.cells (AH l).toArray 2 (0,0))) :
  Calls Tryz.prog 23 #[.slice (some ⟨g,0,none⟩) n n] w0 fun e w'=>∃v,e=.returned v/\Below w0.heap.size w0 w'/\IK l v w':=by
 subst hn
 exact (TH (some ⟨g,0,none⟩) l.length l hl hi w0 (hL.below hI) (InV.at _ hg)).mono fun e w' ⟨h1,h2,h3⟩=>⟨_,h1,h2,_,rfl,h3⟩
theorem AX.at {B g:Nat} {w:World} (vs:List Value) (h:w.heap[g]?=some (.cells vs.toArray 9 (0,0))) (hB:B<=g) (hm:vs.length<=1048576):AX 9 B w (.slice (some ⟨g,0,none⟩) vs.length vs.length) vs :=
 ⟨by simp,.inr ⟨g,vs.length,vs.toArray,rfl,hB,h,Nat.le_refl _,by unfold maxLen;omega,by simp,by simp⟩⟩
theorem KZ {a b:Int} (h1:AF a) (h2:AF b):∀x ∈ [a,b],AF x:=by
 intro x hx
 simp only [List.mem_cons,List.mem_nil_iff,or_false] at hx
 rcases hx with rfl|rfl
 ·exact h1
 ·exact h2
theorem GI {a:Int} (h1:AF a):∀x ∈ [a],AF x:=by
 intro x hx
 simp only [List.mem_cons,List.mem_nil_iff,or_false] at hx
 subst hx
 exact h1
theorem XV (a b:List ByteArray):AC (a++b)=AC a++AC b:=by simp [AC]
theorem sC:(Tryz.prog.info? 99).map (·.size)=some 2:=by kernel_rfl
def JP (mkd:Int) (nm:ByteArray) (e f s:Int) (pts:List (Int×Int)):List ByteArray :=
 if mkd=1 then [DO,nm,AJ e,AJ s] else if mkd=2 then [DI,nm] else if mkd=3 then [CL,nm]++pts.flatMap (fun p=>[AJ p.1,AJ p.2]) else if mkd=4 then [DP,nm,AJ f] else []
theorem sD (mkd:Int) (nm:ByteArray) (e f s:Int) (he:AF e) (hf:AF f) (hs:AF s) (A:Option Addr) (c:Nat) (pts:List (Int×Int)) (hp:∀p ∈ pts,AF p.1/\AF p.2) (hpl:pts.length<=1000) (w:World) (hL:Laid w) (hA:InV w A (AU pts)) :
  Calls Tryz.prog 73 #[.agg #[.int .i64 mkd,.string nm,.int .i64 e,.int .i64 f,.int .i64 s,.slice A pts.length c]] w fun e' w'=>∃v,e'=.returned v/\BR w' v (JP mkd nm e f s pts)/\Below w.heap.size w w':=by
 obtain ⟨R,hR⟩:∃R,R=JP mkd nm e f s pts:=⟨_,rfl⟩
 rw [<-hR]
 unfold JP at hR
 have HR:=AA hR
 clear hR
 obtain ⟨pn,hpn⟩:∃pn,pn=pts.length:=⟨_,rfl⟩
 rw [<-hpn]
 have HPN:=AA hpn
 have hpn2:pn<=1000:=by omega
 have HA:=AA (fun W (hb:Below w.heap.size w W)=>hA.below hb)
 have HL:=AA (fun W (hb:Below w.heap.size w W)=>hL.below hb)
 have HE:=AA he
 have HF:=AA hf
 have HS:=AA hs
 have HP:=AA hp
 clear hL hA he hf hs hp hpn
 by_cases h1:mkd=1
 ·subst h1
  have hR:=HR.out
  rw [if_pos rfl] at hR
  have HR:=AA hR
  clear hR
  go_enter Tryz.func73,Tryz.ntmps73
  go_wp2_with fail
  have fb:=na w #[.int .i64 1,.string nm,.int .i64 e,.int .i64 f,.int .i64 s,.slice A pn c] 24
  have hb1:=bA (b0 w) (.cells #[.int .i64 1,.string nm,.int .i64 e,.int .i64 f,.int .i64 s,.slice A pn c] 24)
  generalize w.alloc (.cells #[.int .i64 1,.string nm,.int .i64 e,.int .i64 f,.int .i64 s,.slice A pn c] 24)=w1 at *
  have HB:=AA hb1
  have HL1:=AA (HL.out _ hb1)
  clear hb1
  refine Abs.wp_region_tail (Abs.cls0 _) [3,4,5,6,7,8,0,1,2] 9 (by kernel_rfl) (by kernel_rfl) (Below.refl _ _).drew ?_
  (refine Abs.step_pure rfl rfl (fun K hK=>?_);go_simp;(try go_bits);(first|refine hK _ _ ?_|(simp only [↓IntWalk.iteOmega];go_simp;(try go_bits);refine hK _ _ ?_));clear hK K)
  (refine Abs.step_load (v:=?_) rfl rfl (by kernel_rfl) rfl (fun w0 hI=>?_) (fun K hK=>?_);rotate_left;(· have z0:=(AB (kp hI (fb))).1;go_simp;rfl);(simp only [Act.put,lA1,lZ1,lS1];refine hK _ _ ?_;clear hK K))
  (refine Abs.step_pure rfl rfl (fun K hK=>?_);go_simp;(try go_bits);(first|refine hK _ _ ?_|(simp only [↓IntWalk.iteOmega];go_simp;(try go_bits);refine hK _ _ ?_));clear hK K)
  (refine Abs.step_load (v:=?_) rfl rfl (by kernel_rfl) rfl (fun w0 hI=>?_) (fun K hK=>?_);rotate_left;(· have z0:=(AB (kp hI (fb))).1;go_simp;rfl);(simp only [Act.put,lA1,lZ1,lS1];refine hK _ _ ?_;clear hK K))
  (refine Abs.step_new (f:=fun g=>.slice (some ⟨g,0,none⟩) 2 2) (obj:=.cells #[.int .i64 e,.int .i64 s] 2) rfl rfl rfl rfl (fun w0=>?_) (fun K hK g_i hv_i hu_i=>?_);(· go_simp;try rfl);(simp only [Act.put,lA1,lZ1,lS1];refine hK _ _ ?_;clear hK K))
  (refine Abs.step_call (f:=?_) (args:=?_) rfl rfl rfl rfl (IK [e,s]) (fun _=>OS _) (fun w0=>?_) (fun w0 hI hF=>?_) (fun K hK v w0 hv=>?_);rotate_left 2;(· go_simp;(constructor <;> rfl));(· exact OT [e,s] rfl (by simp) (KZ HE.out HS.out) HL1.out hI ((hF 7 (by kernel_rfl)).2 rfl));(obtain ⟨A9,rfl,-⟩:=hv;clear w0;simp only [Act.put,lA1,lZ1,lS1];refine hK _ _ ?_;clear hK K))
  (refine Abs.step_pure rfl rfl (fun K hK=>?_);go_simp;(try go_bits);(first|refine hK _ _ ?_|(simp only [↓IntWalk.iteOmega];go_simp;(try go_bits);refine hK _ _ ?_));clear hK K)
  (refine Abs.step_load (v:=?_) rfl rfl (by kernel_rfl) rfl (fun w0 hI=>?_) (fun K hK=>?_);rotate_left;(· have z0:=(AB (kp hI (fb))).1;go_simp;rfl);(simp only [Act.put,lA1,lZ1,lS1];refine hK _ _ ?_;clear hK K))
  (refine Abs.step_new (f:=fun g=>.slice (some ⟨g,0,none⟩) 2 2) (obj:=.cells #[.string DO,.string nm] 9) rfl rfl rfl rfl (fun w0=>?_) (fun K hK g_s hv_s hu_s=>?_);(· go_simp;try rfl);(simp only [Act.put,lA1,lZ1,lS1];refine hK _ _ ?_;clear hK K))
  intro w0 hI hF hx1 hx2
  have q1:=(hF 2).2 rfl
  have q2:=(hF 8).1.2 rfl
  clear hx1 hx2 hF
  simp only [Abs.T_setF,Abs.T_addA,Abs.T_push,Abs.T_start,List.drop_succ_cons,List.drop_zero]
  have HO:=AA (AX.at [.string DO,.string nm] q1 hv_s (by simp))
  have HN:=AA q2.inV.2
  have hsz:(w1.heap.size:Nat)<=w0.heap.size:=hI.size
  have HB0:=AA (bB HB.out hI)
  clear q1 q2 hI hv_s hu_s hv_i hu_i
  go_wp2_with (refine EW rfl _ _ _ rfl 16 Tryz.underlying66 D4 rfl (by decide) w1.heap.size _ _ (AC [AJ e,AJ s]) _ _ rfl rfl HO.out HN.out (F5 _) (by simp [AC]) hsz ?_;intro v' w3 hO3 hlow hsz3)
  go_ret
  refine ⟨_,rfl,?_,HB0.out.trans ((hlow _ (Below.refl _ _)).mono (HB.out.size))⟩
  rw [HR.out]
  exact BR.of (ss:=[DO,nm,AJ e,AJ s]) hO3
 rw [if_neg h1] at HR
 have m1:(mkd== 1)=false:=beq_eq_false_iff_ne.2 h1
 have m1':decide (mkd=1)=false:=decide_eq_false h1
 by_cases h2:mkd=2
 ·subst h2
  have hR:=HR.out
  rw [if_pos rfl] at hR
  have HR:=AA hR
  clear hR
  have hb2:=bA (bA (b0 w) (.cells #[.int .i64 2,.string nm,.int .i64 e,.int .i64 f,.int .i64 s,.slice A pn c] 24)) (.cells #[.string DI,.string nm] 9)
  have hO:BR ((w.alloc (.cells #[.int .i64 2,.string nm,.int .i64 e,.int .i64 f,.int .i64 s,.slice A pn c] 24)).alloc (.cells #[.string DI,.string nm] 9)) (.slice (some ⟨(w.alloc (.cells #[.int .i64 2,.string nm,.int .i64 e,.int .i64 f,.int .i64 s,.slice A pn c] 24)).heap.size,0,none⟩) 2 2) [DI,nm]:=BR.of (B:=w.heap.size) (AX.built (w.alloc (.cells #[.int .i64 2,.string nm,.int .i64 e,.int .i64 f,.int .i64 s,.slice A pn c] 24)) [.string DI,.string nm] (by simp) (by simp))
  simp only [World.size_alloc] at hO
  have HO:=AA hO
  have HB2:=AA hb2
  clear hO hb2
  go_enter Tryz.func73,Tryz.ntmps73
  go_wp2_with fail
  go_ret
  exact ⟨_,rfl,by rw [HR.out];exact HO.out,HB2.out⟩
 rw [if_neg h2] at HR
 have m2:(mkd== 2)=false:=beq_eq_false_iff_ne.2 h2
 have m2':decide (mkd=2)=false:=decide_eq_false h2
 by_cases h3:mkd=3
 ·subst h3
  have hR:=HR.out
  rw [if_pos rfl] at hR
  have HR3:=AA hR
  clear hR HR
  have hb2:=bA (bA (b0 w) (.cells #[.int .i64 3,.string nm,.int .i64 e,.int .i64 f,.int .i64 s,.slice A pn c] 24)) (.cells #[.string CL,.string nm] 9)
  have hO:AX 9 w.heap.size ((w.alloc (.cells #[.int .i64 3,.string nm,.int .i64 e,.int .i64 f,.int .i64 s,.slice A pn c] 24)).alloc (.cells #[.string CL,.string nm] 9)) (.slice (some ⟨(w.alloc (.cells #[.int .i64 3,.string nm,.int .i64 e,.int .i64 f,.int .i64 s,.slice A pn c] 24)).heap.size,0,none⟩) 2 2) (AC [CL,nm]):=AX.built (w.alloc (.cells #[.int .i64 3,.string nm,.int .i64 e,.int .i64 f,.int .i64 s,.slice A pn c] 24)) [.string CL,.string nm] (by simp) (by simp)
  simp only [World.size_alloc] at hO
  have fr:=kp (bA (b0 _) (.cells #[.string CL,.string nm] 9)) (na w #[.int .i64 3,.string nm,.int .i64 e,.int .i64 f,.int .i64 s,.slice A pn c] 24)
  have z1:=(AB fr).1
  have HO:=AA hO
  have HB2:=AA hb2
  clear hO hb2 fr m1 m1' m2 m2' h1 h2
  go_enter Tryz.func73,Tryz.ntmps73
  go_wp2_with fail
  clear z1
  go_loopw [3,33] (fun v3 v33 wr=>∃k:Nat,v33=.int .i64 (k:Int)/\k<=pn/\Hid (AX 9 w.heap.size wr v3 (AC ([CL,nm]++(pts.take k).flatMap (fun p=>[AJ p.1,AJ p.2]))))/\Hid (Below w.heap.size w wr)) (fun _ v33 _=>pn-(intOf v33).toNat)
  case atStart=>exact ⟨0,rfl,by omega,by simp only [List.take_zero,List.flatMap_nil,List.append_nil];exact HO,HB2⟩
  case round=>
   obtain ⟨k,rfl,hk,HOk,HBr⟩:=hrel
   by_cases hlt:k<pn
   ·have e1:decide ((k:Int)<(pn:Int))=true:=decide_eq_true (by omega)
    have hk1:k<pts.length:=by have:=HPN.out;omega
    have hAr:=HA.out wr HBr.out
    obtain ⟨adA,rfl,-,-⟩:=hAr (by have:=H3 pts;omega)
    obtain ⟨c1,c2⟩:=KA hAr (b0 wr) k hk1
    have hpi:=HP.out _ (List.getElem_mem hk1)
    have HW:Hid (AC ([CL,nm]++(pts.take (k+1)).flatMap (fun p=>[AJ p.1,AJ p.2]))=AC ([CL,nm]++(pts.take k).flatMap (fun p=>[AJ p.1,AJ p.2]))++AC [AJ pts[k].1,AJ pts[k].2]):=AA (by
     rw [<-XV,List.take_succ_eq_append_getElem hk1,List.flatMap_append,<-List.append_assoc];simp)
    have HLN:Hid ((AC ([CL,nm]++(pts.take k).flatMap (fun p=>[AJ p.1,AJ p.2]))).length<=4000):=AA (by
     have h:∀l:List (Int×Int),(l.flatMap (fun p=>[AJ p.1,AJ p.2])).length=2*l.length:=fun l=>by
      induction l with
      | nil=>rfl
      | cons p l ih=>simp only [List.flatMap_cons,List.length_append,List.length_cons,List.length_nil,ih];omega
     rw [BG,List.length_append,h,List.length_take]
     simp only [List.length_cons,List.length_nil]
     omega)
    obtain ⟨x,hx⟩:∃x,x=pts[k].1:=⟨_,rfl⟩
    obtain ⟨y,hy⟩:∃y,y=pts[k].2:=⟨_,rfl⟩
    rw [<-hx,<-hy] at hpi HW
    rw [<-hx] at c1
    rw [<-hy] at c2
    have HPI:=AA hpi
    clear hx hy hk1 hAr hpi
    go_wp2_with (refine AG rfl _ _ _ rfl wr.heap.size 99 _ #[.int .i64 x,.int .i64 y] rfl rfl (na wr _ 99) sC rfl (by simp [Value.oneCell']) ?_;simp only [Act.put];generalize hT4:setRow _ _ _=w4;obtain ⟨hx4,g4⟩:=AK (b0 _) (na wr #[.int .i64 0,.int .i64 0] 99) hT4;have HB4:=AA (bX (bA (b0 wr) (.cells #[.int .i64 0,.int .i64 0] 99)) hx4 (Nat.le_refl _));have z4:=(AB g4).1;clear hT4 hx4 c1 c2)
    clear z4
    refine (K7 [x,y] (by simp) (KZ HPI.out.1 HPI.out.2) _ 2 _ w4 rfl rfl rfl (HL.out _ (bB HBr.out HB4.out))).mono ?_
    rintro e' w5 ⟨A5,rfl,hb5,hr5⟩
    have HB5:=AA (bB HB4.out (bB (bA (b0 w4) (.cells #[.int .i64 x,.int .i64 y] 2)) hb5))
    have HO5:=AA (HOk.out.lift HB5.out)
    have HI5:=AA hr5.inV
    have hs5:w.heap.size<=w5.heap.size:=(bB HBr.out HB5.out).size
    clear hb5 hr5
    go_wp2_with (refine EW rfl _ _ _ rfl 16 Tryz.underlying66 D4 rfl (by decide) w.heap.size _ _ (AC [AJ x,AJ y]) _ _ rfl rfl HO5.out HI5.out (F5 _) (by have:=HLN.out;simp only [BG,List.length_cons,List.length_nil] at this ⊢;omega) hs5 ?_;intro v6 w6 hO6 hlow6 hsz6)
    have HB6:=AA (hlow6 w (bB HBr.out HB5.out))
    have HO6:=AA hO6
    clear hlow6 hO6
    go_roundw
    case rel=>exact ⟨k+1,by go_num,by omega,AA (by rw [HW.out];exact HO6.out),HB6⟩
    case measure=>simp [intOf];omega
   ·have e1:decide ((k:Int)<(pn:Int))=false:=decide_eq_false (by omega)
    have HE2:Hid (R=[CL,nm]++(pts.take k).flatMap (fun p=>[AJ p.1,AJ p.2])):=AA (by rw [HR3.out,List.take_of_length_le (by have:=HPN.out;omega)])
    go_wp2_with fail
    go_ret
    exact ⟨_,rfl,by rw [HE2.out];exact BR.of HOk.out,HBr.out⟩
 rw [if_neg h3] at HR
 have m3:(mkd== 3)=false:=beq_eq_false_iff_ne.2 h3
 have m3':decide (mkd=3)=false:=decide_eq_false h3
 by_cases h4:mkd=4
 ·subst h4
  have hR:=HR.out
  rw [if_pos rfl] at hR
  have HR:=AA hR
  clear hR
  go_enter Tryz.func73,Tryz.ntmps73
  go_wp2_with fail
  have fb:=na w #[.int .i64 4,.string nm,.int .i64 e,.int .i64 f,.int .i64 s,.slice A pn c] 24
  have hb1:=bA (b0 w) (.cells #[.int .i64 4,.string nm,.int .i64 e,.int .i64 f,.int .i64 s,.slice A pn c] 24)
  generalize w.alloc (.cells #[.int .i64 4,.string nm,.int .i64 e,.int .i64 f,.int .i64 s,.slice A pn c] 24)=w1 at *
  have HB:=AA hb1
  have HL1:=AA (HL.out _ hb1)
  clear hb1
  refine Abs.wp_region_tail (Abs.cls0 _) [3,4,5,6,0,1,2] 7 (by kernel_rfl) (by kernel_rfl) (Below.refl _ _).drew ?_
  (refine Abs.step_pure rfl rfl (fun K hK=>?_);go_simp;(try go_bits);(first|refine hK _ _ ?_|(simp only [↓IntWalk.iteOmega];go_simp;(try go_bits);refine hK _ _ ?_));clear hK K)
  (refine Abs.step_load (v:=?_) rfl rfl (by kernel_rfl) rfl (fun w0 hI=>?_) (fun K hK=>?_);rotate_left;(· have z0:=(AB (kp hI (fb))).1;go_simp;rfl);(simp only [Act.put,lA1,lZ1,lS1];refine hK _ _ ?_;clear hK K))
  (refine Abs.step_new (f:=fun g=>.slice (some ⟨g,0,none⟩) 1 1) (obj:=.cells #[.int .i64 f] 2) rfl rfl rfl rfl (fun w0=>?_) (fun K hK g_i hv_i hu_i=>?_);(· go_simp;try rfl);(simp only [Act.put,lA1,lZ1,lS1];refine hK _ _ ?_;clear hK K))
  (refine Abs.step_call (f:=?_) (args:=?_) rfl rfl rfl rfl (IK [f]) (fun _=>OS _) (fun w0=>?_) (fun w0 hI hF=>?_) (fun K hK v w0 hv=>?_);rotate_left 2;(· go_simp;(constructor <;> rfl));(· exact OT [f] rfl (by simp) (GI HF.out) HL1.out hI ((hF 5 (by kernel_rfl)).2 rfl));(obtain ⟨A9,rfl,-⟩:=hv;clear w0;simp only [Act.put,lA1,lZ1,lS1];refine hK _ _ ?_;clear hK K))
  (refine Abs.step_pure rfl rfl (fun K hK=>?_);go_simp;(try go_bits);(first|refine hK _ _ ?_|(simp only [↓IntWalk.iteOmega];go_simp;(try go_bits);refine hK _ _ ?_));clear hK K)
  (refine Abs.step_load (v:=?_) rfl rfl (by kernel_rfl) rfl (fun w0 hI=>?_) (fun K hK=>?_);rotate_left;(· have z0:=(AB (kp hI (fb))).1;go_simp;rfl);(simp only [Act.put,lA1,lZ1,lS1];refine hK _ _ ?_;clear hK K))
  (refine Abs.step_new (f:=fun g=>.slice (some ⟨g,0,none⟩) 2 2) (obj:=.cells #[.string DP,.string nm] 9) rfl rfl rfl rfl (fun w0=>?_) (fun K hK g_s hv_s hu_s=>?_);(· go_simp;try rfl);(simp only [Act.put,lA1,lZ1,lS1];refine hK _ _ ?_;clear hK K))
  intro w0 hI hF hx1 hx2
  have q1:=(hF 2).2 rfl
  have q2:=(hF 6).1.2 rfl
  clear hx1 hx2 hF
  simp only [Abs.T_setF,Abs.T_addA,Abs.T_push,Abs.T_start,List.drop_succ_cons,List.drop_zero]
  have HO:=AA (AX.at [.string DP,.string nm] q1 hv_s (by simp))
  have HN:=AA q2.inV.2
  have hsz:(w1.heap.size:Nat)<=w0.heap.size:=hI.size
  have HB0:=AA (bB HB.out hI)
  clear q1 q2 hI hv_s hu_s hv_i hu_i
  go_wp2_with (refine EW rfl _ _ _ rfl 16 Tryz.underlying66 D4 rfl (by decide) w1.heap.size _ _ (AC [AJ f]) _ _ rfl rfl HO.out HN.out (F5 _) (by simp [AC]) hsz ?_;intro v' w3 hO3 hlow hsz3)
  go_ret
  refine ⟨_,rfl,?_,HB0.out.trans ((hlow _ (Below.refl _ _)).mono (HB.out.size))⟩
  rw [HR.out]
  exact BR.of (ss:=[DP,nm,AJ f]) hO3
 ·rw [if_neg h4] at HR
  have m4:(mkd== 4)=false:=beq_eq_false_iff_ne.2 h4
  have m4':decide (mkd=4)=false:=decide_eq_false h4
  have hb:=bA (b0 w) (.cells #[.int .i64 mkd,.string nm,.int .i64 e,.int .i64 f,.int .i64 s,.slice A pn c] 24)
  go_enter Tryz.func73,Tryz.ntmps73
  go_wp2_with fail
  go_ret
  exact ⟨_,rfl,by rw [HR.out];exact BR.nil _,hb⟩
def FN (k:Int) (nm:ByteArray) (a b wh N:Int):List ByteArray :=
 if k<1∨8<k then [] else if k=6 then [AW 6,nm,AJ a] else if k=8 then (if wh<1∨5<wh then [] else [AW 8,nm,AW wh.toNat,AJ a,AJ b,AJ N]) else [AW k.toNat,nm,AJ a,AJ b]
theorem XW {ρ:Operand->Value} {o:Oper} {t:TypeId} {x y:Operand} {v:Value} {w:World} (ho:o.op=.index t x y) (h:(Instr.index t (ρ x) (ρ y)).run Tryz.prog w=.ok v w):(execOp ρ o).run Tryz.prog w=.ok (.value v) w:=by
 unfold execOp
 simp only [ho,Sem.run_bind,Sem.run_pure,Result.andThen_ok]
 rw [h]
 rfl
theorem XX (k:Nat) (hk:k<=8) (w:World):(Instr.index 141 (.agg (AC DN).toArray) (.int .i64 (k:Int))).run Tryz.prog w=.ok (.string (AW k)) w:=by
 obtain rfl|rfl|rfl|rfl|rfl|rfl|rfl|rfl|rfl:k=0∨k=1∨k=2∨k=3∨k=4∨k=5∨k=6∨k=7∨k=8:=by omega
 all_goals kernel_rfl
theorem XY {a b c:Int} (h1:AF a) (h2:AF b) (h3:AF c):∀x ∈ [a,b,c],AF x:=by
 intro x hx
 simp only [List.mem_cons,List.mem_nil_iff,or_false] at hx
 rcases hx with rfl|rfl|rfl
 ·exact h1
 ·exact h2
 ·exact h3
theorem XZ {B:Nat} {v:Value} {l:List Value}:Abs.Cl (fun _=>False) (fun w=>AX 9 B w v l):=by
 intro w w' h hr
 obtain ⟨h1,h2⟩:=h
 refine ⟨h1,?_⟩
 rcases h2 with h2|⟨g,cap,cur,h3,h4,h5,h6⟩
 ·exact .inl h2
 ·exact .inr ⟨g,cap,cur,h3,h4,(hr.block g (Array.getElem?_eq_some_iff.1 h5).1 (fun hf=>hf)).trans h5,h6⟩
theorem sE {W:World} {ops:List Oper} {Q:Act->Abs.St->Prop} {rest:List Nat} {i:Nat} {o:Oper} {a:Act} {s:Abs.St} (ho:ops[i]?=some o) (hw:Region.wanted o (yielded ops.toArray a.tmps)=true) (hk:Abs.kindOf o=.k) (ht:s.t=false)
  (x y:Operand) (hop:o.op=.call { callee:=.builtin .append,args:=#[x,y],argTypes:=#[66,66] }) (l m:List Value) (g g2 n k c:Nat) (hx:a.eval x=.slice (some ⟨g,0,none⟩) n n) (hn:n=l.length) (hy:a.eval y=.slice (some ⟨g2,0,none⟩) k c) (hkm:k=m.length) (h0:0<m.length) (hlen:l.length+m.length<=1048576)
  (hc:∀w,Below W.heap.size W w->(∀j,Abs.reach ops.toArray i j=true->s.F j w)->w.heap[g]?=some (.cells l.toArray 9 (0,0))/\w.heap[g2]?=some (.cells m.toArray 9 (0,0)))
  (h2:∀K:Act->Abs.St->Prop,(∀a s,Abs.wpOrd Tryz.prog ops.toArray (Abs.cls0 W) Q rest a s->K a s)->∀v w,AX 9 W.heap.size w v (l++m)->K (a.put o.dst v) (s.setF i (fun w=>AX 9 W.heap.size w v (l++m)))):Abs.wpOrd Tryz.prog ops.toArray (Abs.cls0 W) Q (i::rest) a s:=by
 subst hn hkm
 refine Abs.step_does0 ho (.inr (.inl ⟨hw,hk,ht,fun v w=>AX 9 W.heap.size w v (l++m),fun v=>XZ,fun w hI hF=>?_,fun v hg=>?_⟩))
 ·obtain ⟨c1,c2⟩:=hc w hI hF
  obtain ⟨i0,hi0,hz0,hz1,hz2⟩:=info_parts D4
  have k1:∀j u,l[j]?=some u->w.cell? ((⟨g,0,none⟩:Addr).add j)=some u:=fun j u hu=>by
   rw [show (⟨g,0,none⟩:Addr).add j=⟨g,j,none⟩ by
    unfold Addr.add
    split
    ·next h0=>simp [h0]
    ·simp]
   rw [(AB c1).1];simpa using hu
  have k2:∀j u,m[j]?=some u->w.cell? ((⟨g2,0,none⟩:Addr).add j)=some u:=fun j u hu=>by
   rw [show (⟨g2,0,none⟩:Addr).add j=⟨g2,j,none⟩ by
    unfold Addr.add
    split
    ·next h0=>simp [h0]
    ·simp]
   rw [(AB c2).1];simpa using hu
  obtain ⟨v',w',hrun,hown,hgr⟩:=run_append_arg_grows (P:=Tryz.prog) (w:=w) 66 o.type 9 i0 (.string ByteArray.empty) 1 16 Tryz.underlying66 hi0 hz0 hz1 hz2 rfl (by decide) ⟨g,0,none⟩ l.length l.length l (by omega) k1 ⟨g2,0,none⟩ m.length c m (by omega) k2 (by omega) (by simp only [maxLen];omega) (by omega)
  unfold Abs.nonq
  have he:(execOp a.eval o).run Tryz.prog w=.ok (.value v') w':=by
   unfold execOp
   simp only [hop,resolve,invoke,builtin,Sem.run_bind,Sem.run_pure,Result.andThen_ok,List.map_toArray,List.map_cons,List.map_nil,hx,hy]
   rw [hrun]
   rfl
  rw [he]
  obtain ⟨r1,r2,r3,r4,r5⟩:=hgr
  refine ⟨⟨r1,r2,r3,r4,fun k hk _=>r5 k hk (by intro e;cases e)⟩,?_⟩
  obtain ⟨o1,o2⟩:=hown
  refine ⟨by simp,?_⟩
  rcases o2 with ⟨rfl,e⟩|⟨b,cap,cur,rfl,hb,hg,hn,hm,hs,ht⟩
  ·exfalso;omega
  ·exact .inr ⟨b,cap,cur,by rw [List.length_append],Nat.le_trans hI.size hb,hg,by rw [List.length_append];exact hn,hm,hs,by simpa using ht⟩
 ·obtain ⟨⟨w,_,w0,_,hF,_⟩,_⟩:=hg
  exact h2 _ (fun _ _ h=>h) v w0 ((hF i).2 rfl)
theorem sF (k:Int) (nm:ByteArray) (a b wh N:Int) (ha:AF a) (hb:AF b) (hN:AF N) (w:World) (hL:Laid w) :
  Calls Tryz.prog 74 #[.agg #[.int .i64 k,.string nm,.int .i64 a,.int .i64 b,.int .i64 wh,.int .i64 N]] w fun e' w'=>∃v,e'=.returned v/\BR w' v (FN k nm a b wh N)/\Below w.heap.size w w':=by
 obtain ⟨R,hR⟩:∃R,R=FN k nm a b wh N:=⟨_,rfl⟩
 rw [<-hR]
 unfold FN at hR
 have HL:=AA (fun W (hb:Below w.heap.size w W)=>hL.below hb)
 have HA:=AA ha
 have HBB:=AA hb
 have HNN:=AA hN
 have hb1:=bA (b0 w) (.cells #[.int .i64 k,.string nm,.int .i64 a,.int .i64 b,.int .i64 wh,.int .i64 N] 26)
 have fb:=na w #[.int .i64 k,.string nm,.int .i64 a,.int .i64 b,.int .i64 wh,.int .i64 N] 26
 have HB1:=AA hb1
 have FB:=AA fb
 clear hL ha hb hN hb1 fb
 by_cases hlo:k<1
 ·rw [if_pos (.inl hlo)] at hR
  have HR:=AA hR
  have d1:decide (k<1)=true:=decide_eq_true hlo
  clear hR
  go_enter Tryz.func74,Tryz.ntmps74
  go_wp2_with fail
  go_ret
  exact ⟨_,rfl,by rw [HR.out];exact BR.nil _,HB1.out⟩
 by_cases hhi:8<k
 ·rw [if_pos (.inr hhi)] at hR
  have HR:=AA hR
  have d1:decide (k<1)=false:=decide_eq_false hlo
  have d2:decide (8<k)=true:=decide_eq_true hhi
  clear hR
  go_enter Tryz.func74,Tryz.ntmps74
  go_wp2_with fail
  go_ret
  exact ⟨_,rfl,by rw [HR.out];exact BR.nil _,HB1.out⟩
 rw [if_neg (by omega)] at hR
 obtain ⟨kn,rfl⟩:∃kn:Nat,k=(kn:Int):=⟨k.toNat,by omega⟩
 have hk8:kn<=8:=by omega
 have d1:decide ((kn:Int)<1)=false:=decide_eq_false hlo
 have d2:decide ((8:Int)<(kn:Int))=false:=decide_eq_false hhi
 have cW:=PH
 have hIX:=XX kn hk8
 have HIW:=AA XX
 generalize (AC DN).toArray=Y at *
 obtain ⟨K9,hK9⟩:∃K9,K9=AW kn:=⟨_,rfl⟩
 rw [<-hK9] at hIX
 have HR:=AA hR
 have HK:=AA hK9
 clear hR hlo hhi hK9
 go_enter Tryz.func74,Tryz.ntmps74
 go_wp2_with fail
 have fb:=FB.out
 generalize w.alloc (.cells #[.int .i64 (kn:Int),.string nm,.int .i64 a,.int .i64 b,.int .i64 wh,.int .i64 N] 26)=w1 at *
 clear FB
 refine Abs.wp_region_abs (Abs.cls0 _) [0,1,2,3,4,5,6,7] (by kernel_rfl) (by kernel_rfl) (Below.refl _ _).drew ?_
 (refine Abs.step_call_val (f:=69) (args:=#[]) (v:=?_) rfl rfl rfl rfl (fun w0=>?_) (fun w0 hI=>?_) (fun K hK=>?_);rotate_left 1;(· first|rfl|(go_simp;done)|(go_simp;rfl));(· exact cW _);(simp only [Act.put,lA1,lZ1,lS1];refine hK _ _ ?_;clear hK K))
 (refine Abs.step_pure rfl rfl (fun K hK=>?_);go_simp;(try go_bits);(first|refine hK _ _ ?_|(simp only [↓IntWalk.iteOmega];go_simp;(try go_bits);refine hK _ _ ?_));clear hK K)
 (refine Abs.step_load (v:=?_) rfl rfl (by kernel_rfl) rfl (fun w0 hI=>?_) (fun K hK=>?_);rotate_left;(· have z0:=(AB (kp hI (fb))).1;go_simp;rfl);(simp only [Act.put,lA1,lZ1,lS1];refine hK _ _ ?_;clear hK K))
 (refine Abs.step_pure rfl rfl (fun K hK=>⟨.string K9,fun w0=>XW rfl (hIX w0),?_⟩);(simp only [Act.put,lA1,lZ1,lS1];refine hK _ _ ?_;clear hK K))
 (refine Abs.step_pure rfl rfl (fun K hK=>?_);go_simp;(try go_bits);(first|refine hK _ _ ?_|(simp only [↓IntWalk.iteOmega];go_simp;(try go_bits);refine hK _ _ ?_));clear hK K)
 (refine Abs.step_load (v:=?_) rfl rfl (by kernel_rfl) rfl (fun w0 hI=>?_) (fun K hK=>?_);rotate_left;(· have z0:=(AB (kp hI (fb))).1;go_simp;rfl);(simp only [Act.put,lA1,lZ1,lS1];refine hK _ _ ?_;clear hK K))
 (refine Abs.step_new (f:=fun g=>.slice (some ⟨g,0,none⟩) 2 2) (obj:=.cells #[.string K9,.string nm] 9) rfl rfl rfl rfl (fun w0=>?_) (fun K hK g_s hv_s hu_s=>?_);(· go_simp;try rfl);(simp only [Act.put,lA1,lZ1,lS1];refine hK _ _ ?_;clear hK K))
 (refine Abs.step_pure rfl rfl (fun K hK=>?_);go_simp;(try go_bits);(first|refine hK _ _ ?_|(simp only [↓IntWalk.iteOmega];go_simp;(try go_bits);refine hK _ _ ?_));clear hK K)
 intro w2 hI hF hx1 hx2
 have q1:=(hF 6).2 rfl
 clear hx1 hx2 hF
 simp only [Abs.T_setF,Abs.T_addA,Abs.T_push,Abs.T_start]
 have HO2:=AA (AX.at (B:=w1.heap.size) [.string K9,.string nm] q1 hv_s (by simp))
 have FSx:=AA q1
 have f2:=kp hI fb
 have HB2:=AA (bB HB1.out hI)
 have hs2:=hI.size
 have hw1:=HB1.out.size
 clear q1 hI hv_s hu_s hIX fb
 by_cases h6:kn=6
 ·subst h6
  have hR:=HR.out
  rw [if_pos (show ((6:Nat):Int)=6 from rfl)] at hR
  have HR6:=AA hR
  clear hR
  obtain ⟨z1,z2,z3⟩:=AB f2
  go_wp2_with fail
  clear z1 z2 z3
  refine (K7 [a] (by simp) (GI HA.out) _ 1 _ w2 rfl rfl rfl (HL.out _ HB2.out)).mono ?_
  rintro e' w5 ⟨A5,rfl,hb5,hr5⟩
  have HB5:=AA (bB HB2.out (bB (bA (b0 w2) (.cells #[.int .i64 a] 2)) hb5))
  have HO5:=AA (HO2.out.lift (bB (bA (b0 w2) (.cells #[.int .i64 a] 2)) hb5))
  have HI5:=AA hr5.inV
  have hs5:w1.heap.size<=w5.heap.size:=Nat.le_trans hs2 (bB (bA (b0 w2) (.cells #[.int .i64 a] 2)) hb5).size
  clear hb5 hr5
  go_wp2_with (refine EW rfl _ _ _ rfl 16 Tryz.underlying66 D4 rfl (by decide) w1.heap.size _ _ (AC [AJ a]) _ _ rfl rfl HO5.out HI5.out (F5 _) (by simp [AC]) hs5 ?_;intro v6 w6 hO6 hlow6 hsz6)
  go_ret
  refine ⟨_,rfl,?_,HB5.out.trans ((hlow6 _ (Below.refl _ _)).mono hw1)⟩
  rw [HR6.out,<-HK.out]
  exact BR.of (ss:=[K9,nm,AJ a]) hO6
 ·have m1:((kn:Int)== 6)=false:=beq_eq_false_iff_ne.2 (by omega)
  have m2:decide ((kn:Int)=6)=false:=decide_eq_false (by omega)
  have hR:=HR.out
  rw [if_neg (by omega)] at hR
  by_cases h8:kn=8
  ·subst h8
   rw [if_pos (show ((8:Nat):Int)=8 from rfl)] at hR
   have HR8:=AA hR
   clear hR HR
   by_cases hwl:wh<1
   ·have d3:decide (wh<1)=true:=decide_eq_true hwl
    have HR9:=AA (HR8.out.trans (if_pos (.inl hwl)))
    obtain ⟨z1,z2,z3⟩:=AB f2
    go_wp2_with fail
    go_ret
    exact ⟨_,rfl,by rw [HR9.out];exact BR.nil _,HB2.out⟩
   by_cases hwh:5<wh
   ·have d3:decide (wh<1)=false:=decide_eq_false hwl
    have d4:decide (5<wh)=true:=decide_eq_true hwh
    have HR9:=AA (HR8.out.trans (if_pos (.inr hwh)))
    obtain ⟨z1,z2,z3⟩:=AB f2
    go_wp2_with fail
    go_ret
    exact ⟨_,rfl,by rw [HR9.out];exact BR.nil _,HB2.out⟩
   have HR9:=AA (HR8.out.trans (if_neg (by omega)))
   obtain ⟨wn,rfl⟩:∃wn:Nat,wh=(wn:Int):=⟨wh.toNat,by omega⟩
   have d3:decide ((wn:Int)<1)=false:=decide_eq_false hwl
   have d4:decide ((5:Int)<(wn:Int))=false:=decide_eq_false hwh
   have hIY:=HIW.out wn (by omega)
   rw [Int.toNat_natCast] at HR9
   obtain ⟨W9,hW9⟩:∃W9,W9=AW wn:=⟨_,rfl⟩
   rw [<-hW9] at hIY HR9
   clear hW9 hwl hwh
   have HL2:=AA (HL.out _ HB2.out)
   obtain ⟨z1,z2,z3⟩:=AB f2
   go_wp2_with fail
   clear z1 z2 z3
   refine Abs.wp_region_tail (Abs.cls0 _) [0,1,2,3,4,5,6,7,8,9,10,11,12,13,14] 15 (by kernel_rfl) (by kernel_rfl) (Below.refl _ _).drew ?_
   (refine Abs.step_pure rfl rfl (fun K hK=>?_);go_simp;(try go_bits);(first|refine hK _ _ ?_|(simp only [↓IntWalk.iteOmega];go_simp;(try go_bits);refine hK _ _ ?_));clear hK K)
   (refine Abs.step_call_val (f:=69) (args:=#[]) (v:=?_) rfl rfl rfl rfl (fun w0=>?_) (fun w0 hI=>?_) (fun K hK=>?_);rotate_left 1;(· first|rfl|(go_simp;done)|(go_simp;rfl));(· exact cW _);(simp only [Act.put,lA1,lZ1,lS1];refine hK _ _ ?_;clear hK K))
   (refine Abs.step_pure rfl rfl (fun K hK=>?_);go_simp;(try go_bits);(first|refine hK _ _ ?_|(simp only [↓IntWalk.iteOmega];go_simp;(try go_bits);refine hK _ _ ?_));clear hK K)
   (refine Abs.step_load (v:=?_) rfl rfl (by kernel_rfl) rfl (fun w0 hI=>?_) (fun K hK=>?_);rotate_left;(· have z0:=(AB (kp hI (f2))).1;go_simp;rfl);(simp only [Act.put,lA1,lZ1,lS1];refine hK _ _ ?_;clear hK K))
   (refine Abs.step_pure rfl rfl (fun K hK=>⟨.string W9,fun w0=>XW rfl (hIY w0),?_⟩);(simp only [Act.put,lA1,lZ1,lS1];refine hK _ _ ?_;clear hK K))
   (refine Abs.step_new (f:=fun g=>.slice (some ⟨g,0,none⟩) 1 1) (obj:=.cells #[.string W9] 9) rfl rfl rfl rfl (fun w0=>?_) (fun K hK g_t hv_t hu_t=>?_);(· go_simp;try rfl);(simp only [Act.put,lA1,lZ1,lS1];refine hK _ _ ?_;clear hK K))
   (refine sE rfl rfl rfl rfl _ _ rfl [.string K9,.string nm] [.string W9] g_s g_t 2 1 1 rfl rfl rfl rfl (by simp) (by simp) (fun w0 hI hF=>⟨kp hI FSx.out,(hF 5 (by kernel_rfl)).2 rfl⟩) (fun K hK v9 w0 hv9=>?_);clear hv9 w0;(simp only [Act.put,lA1,lZ1,lS1];refine hK _ _ ?_;clear hK K))
   (refine Abs.step_pure rfl rfl (fun K hK=>?_);go_simp;(try go_bits);(first|refine hK _ _ ?_|(simp only [↓IntWalk.iteOmega];go_simp;(try go_bits);refine hK _ _ ?_));clear hK K)
   (refine Abs.step_load (v:=?_) rfl rfl (by kernel_rfl) rfl (fun w0 hI=>?_) (fun K hK=>?_);rotate_left;(· have z0:=(AB (kp hI (f2))).1;go_simp;rfl);(simp only [Act.put,lA1,lZ1,lS1];refine hK _ _ ?_;clear hK K))
   (refine Abs.step_pure rfl rfl (fun K hK=>?_);go_simp;(try go_bits);(first|refine hK _ _ ?_|(simp only [↓IntWalk.iteOmega];go_simp;(try go_bits);refine hK _ _ ?_));clear hK K)
   (refine Abs.step_load (v:=?_) rfl rfl (by kernel_rfl) rfl (fun w0 hI=>?_) (fun K hK=>?_);rotate_left;(· have z0:=(AB (kp hI (f2))).1;go_simp;rfl);(simp only [Act.put,lA1,lZ1,lS1];refine hK _ _ ?_;clear hK K))
   (refine Abs.step_pure rfl rfl (fun K hK=>?_);go_simp;(try go_bits);(first|refine hK _ _ ?_|(simp only [↓IntWalk.iteOmega];go_simp;(try go_bits);refine hK _ _ ?_));clear hK K)
   (refine Abs.step_load (v:=?_) rfl rfl (by kernel_rfl) rfl (fun w0 hI=>?_) (fun K hK=>?_);rotate_left;(· have z0:=(AB (kp hI (f2))).1;go_simp;rfl);(simp only [Act.put,lA1,lZ1,lS1];refine hK _ _ ?_;clear hK K))
   (refine Abs.step_new (f:=fun g=>.slice (some ⟨g,0,none⟩) 3 3) (obj:=.cells #[.int .i64 a,.int .i64 b,.int .i64 N] 2) rfl rfl rfl rfl (fun w0=>?_) (fun K hK g_i hv_i hu_i=>?_);(· go_simp;try rfl);(simp only [Act.put,lA1,lZ1,lS1];refine hK _ _ ?_;clear hK K))
   (refine Abs.step_call (f:=?_) (args:=?_) rfl rfl rfl rfl (IK [a,b,N]) (fun _=>OS _) (fun w0=>?_) (fun w0 hI hF=>?_) (fun K hK v w0 hv=>?_);rotate_left 2;(· go_simp;(constructor <;> rfl));(· exact OT [a,b,N] rfl (by simp) (XY HA.out HBB.out HNN.out) HL2.out hI ((hF 13 (by kernel_rfl)).2 rfl));(obtain ⟨A9,rfl,-⟩:=hv;clear w0;simp only [Act.put,lA1,lZ1,lS1];refine hK _ _ ?_;clear hK K))
   intro w5 hI hF hx1 hx2
   have q5:=(hF 6).1.1.2 rfl
   have q6:=(hF 14).2 rfl
   clear hx1 hx2 hF
   simp only [Abs.T_setF,Abs.T_addA,Abs.T_push,Abs.T_start,List.drop_succ_cons,List.drop_zero]
   have HO5:=AA q5
   have HI5:=AA q6.inV.2
   have hs5:w2.heap.size<=w5.heap.size:=hI.size
   have HB5:=AA (bB HB2.out hI)
   have hw2:w.heap.size<=w2.heap.size:=HB2.out.size
   clear q5 q6 hI hv_t hu_t hv_i hu_i
   go_wp2_with (refine EW rfl _ _ _ rfl 16 Tryz.underlying66 D4 rfl (by decide) w2.heap.size _ _ (AC [AJ a,AJ b,AJ N]) _ _ rfl rfl HO5.out HI5.out (F5 _) (by simp [AC]) hs5 ?_;intro v6 w6 hO6 hlow6 hsz6)
   go_ret
   refine ⟨_,rfl,?_,HB5.out.trans ((hlow6 _ (Below.refl _ _)).mono hw2)⟩
   rw [HR9.out]
   have e8:=HK.out
   rw [<-e8]
   exact BR.of (ss:=[K9,nm,W9,AJ a,AJ b,AJ N]) hO6
  ·have m3:((kn:Int)== 8)=false:=beq_eq_false_iff_ne.2 (by omega)
   have m4:decide ((kn:Int)=8)=false:=decide_eq_false (by omega)
   rw [if_neg (by omega),Int.toNat_natCast,<-HK.out] at hR
   have HR7:=AA hR
   clear hR HR
   obtain ⟨z1,z2,z3⟩:=AB f2
   go_wp2_with fail
   clear z1 z2 z3
   refine (K7 [a,b] (by simp) (KZ HA.out HBB.out) _ 2 _ w2 rfl rfl rfl (HL.out _ HB2.out)).mono ?_
   rintro e' w5 ⟨A5,rfl,hb5,hr5⟩
   have HB5:=AA (bB HB2.out (bB (bA (b0 w2) (.cells #[.int .i64 a,.int .i64 b] 2)) hb5))
   have HO5:=AA (HO2.out.lift (bB (bA (b0 w2) (.cells #[.int .i64 a,.int .i64 b] 2)) hb5))
   have HI5:=AA hr5.inV
   have hs5:w1.heap.size<=w5.heap.size:=Nat.le_trans hs2 (bB (bA (b0 w2) (.cells #[.int .i64 a,.int .i64 b] 2)) hb5).size
   clear hb5 hr5
   go_wp2_with (refine EW rfl _ _ _ rfl 16 Tryz.underlying66 D4 rfl (by decide) w1.heap.size _ _ (AC [AJ a,AJ b]) _ _ rfl rfl HO5.out HI5.out (F5 _) (by simp [AC]) hs5 ?_;intro v6 w6 hO6 hlow6 hsz6)
   go_ret
   refine ⟨_,rfl,?_,HB5.out.trans ((hlow6 _ (Below.refl _ _)).mono hw1)⟩
   rw [HR7.out]
   exact BR.of (ss:=[K9,nm,AJ a,AJ b]) hO6
def C6 (d:Nat):UInt8:=if d<10 then UInt8.ofNat (48+d) else UInt8.ofNat (87+d)
def CZ (n:Nat):List UInt8:=if n<16 then [C6 n] else CZ (n/16)++[C6 (n%16)]
def C7:Nat->Nat->List UInt8
 | 0,_=>[]
 | k+1,n=>C7 k (n/16)++[C6 (n%16)]
theorem X0:∀k n,(C7 k n).length=k
 | 0,_=>rfl
 | k+1,n=>by rw [C7,List.length_append,X0];rfl
theorem X1:∀k,C7 k 0=List.replicate k 48
 | 0=>rfl
 | k+1=>by rw [C7,Nat.zero_div,X1,List.replicate_succ'];rfl
theorem X2:∀(k n:Nat),n<16 ^ (k+1)->(CZ n).length<=k+1/\C7 (k+1) n=List.replicate (k+1-(CZ n).length) 48++CZ n
 | 0,n,h=>by
  have h:n<16:=by simpa using h
  rw [CZ,if_pos h,C7,C7,Nat.mod_eq_of_lt h]
  exact ⟨Nat.le_refl _,rfl⟩
 | k+1,n,h=>by
  by_cases h16:n<16
  ·rw [CZ,if_pos h16,C7,Nat.div_eq_of_lt h16,Nat.mod_eq_of_lt h16,X1]
   exact ⟨by simp,by simp⟩
  ·have h2:n/16<16 ^ (k+1):=by rw [Nat.div_lt_iff_lt_mul (by decide)];rwa [<-Nat.pow_succ]
   obtain ⟨i1,i2⟩:=X2 k (n/16) h2
   rw [CZ,if_neg h16,C7,i2]
   refine ⟨by rw [List.length_append];simpa using i1,?_⟩
   rw [List.length_append,List.append_assoc]
   congr 2
   simp
def SL:ByteArray:=⟨#[48,49,50,51,52,53,54,55,56,57,97,98,99,100,101,102,103,104,105,106,107,108,109,110,111,112,113,114,115,116,117,118,119,120,121,122]⟩
theorem X3 (d:Nat) (h:d<16) (w:World):(Instr.index 9 (.string SL) (.int .u64 (d:Int))).run Tryz.prog w=.ok (.int .u8 ((C6 d).toNat:Int)) w:=by
 obtain rfl|rfl|rfl|rfl|rfl|rfl|rfl|rfl|rfl|rfl|rfl|rfl|rfl|rfl|rfl|rfl:d=0∨d=1∨d=2∨d=3∨d=4∨d=5∨d=6∨d=7∨d=8∨d=9∨d=10∨d=11∨d=12∨d=13∨d=14∨d=15:=by omega
 all_goals kernel_rfl
def Deb (w:World):Prop:=w.cell? ⟨8,15,none⟩=some (.int .u8 4)
theorem sG (w:World) (h:Deb w):Calls Tryz.prog 254 #[.int .u64 16] w fun e w'=>e=.returned (.int .i64 4)/\w'=w:=by
 unfold Deb at h
 have c:Calls Tryz.prog 341 #[.int .u64 16] w fun e w'=>e=.returned (.int .i64 4)/\w'=w:=by
  have e1:IntKind.u64.wrap (-16)=18446744073709551600:=by decide
  have e2:bits BinOp.and IntKind.u64 16 18446744073709551600=16:=by kernel_rfl
  have e3:IntKind.u64.wrap (16*285870213051353865)=4573923408821661840:=by decide
  go_enter Tryz.func341,Tryz.ntmps341
  go_wp2
  go_ret
  exact ⟨rfl,rfl⟩
 go_enter Tryz.func254,Tryz.ntmps254
 go_wp2_with fail
 refine c.mono ?_
 rintro e w' ⟨rfl,rfl⟩
 go_wp2
 go_ret
 exact ⟨rfl,rfl⟩
theorem sH (w:World):Calls Tryz.prog 253 #[.int .i64 16] w fun e w'=>e=.returned (.bool true)/\w'=w:=by
 have e2:bits BinOp.and IntKind.i64 16 15=0:=by kernel_rfl
 go_enter Tryz.func253,Tryz.ntmps253
 go_wp2
 go_ret
 exact ⟨rfl,rfl⟩
theorem sI (n:Nat) (h:n<18446744073709551616):bits .and .u64 (n:Int) 15=((n%16:Nat):Int):=by
 have:=bits_and_u64_nat n 15 h (by decide)
 rw [show ((15:Nat):Int)=15 from rfl] at this
 rw [this,Nat.and_two_pow_sub_one_eq_mod n 4]
theorem X4 {ops:Array Oper} {rest:List Oper} {o:Oper} {a:Act} {w:World} {Q:Exit->Act->World->Prop} (hgd:o.guard=none) (t:TypeId) (x y:Operand) (ho:o.op=.index t x y) (X Y v:Value) (hx:a.eval x=X) (hy:a.eval y=Y)
  (hv:(Instr.index t X Y).run Tryz.prog w=.ok v w) (h:wpList Tryz.prog ops Q rest (a.put o.dst v) w):wpList Tryz.prog ops Q (o::rest) a w:=by
 subst hx hy
 refine wpList_plain hgd fun _ hK=>?_
 unfold Oper.wp execOp
 simp only [ho,Sem.run_bind,Sem.run_pure,Result.andThen_ok]
 rw [hv]
 exact hK _ _ h
theorem sJ {ops:Array Oper} {rest:List Oper} {o:Oper} {a:Act} {w:World} {Q:Exit->Act->World->Prop} (hgd:o.guard=none) (s d:TypeId) (x:Operand) (ho:o.op=.convert s d x) (X v:Value) (hx:a.eval x=X)
  (hv:(convert s d X).run Tryz.prog w=.ok v w) (h:wpList Tryz.prog ops Q rest (a.put o.dst v) w):wpList Tryz.prog ops Q (o::rest) a w:=by
 subst hx
 refine wpList_plain hgd fun _ hK=>?_
 unfold Oper.wp execOp
 simp only [ho,Sem.run_bind,Sem.run_pure,Result.andThen_ok]
 rw [hv]
 exact hK _ _ h
theorem sK (W:World) (b j:Nat) (hj:j<=64):(Instr.sliceAt 379 (.pointer (some ⟨b,0,none⟩)) (some (.int .i64 (j:Int))) none none).run Tryz.prog W=.ok (.slice (some ⟨b,j,none⟩) (65-j) (65-j)) W:=by
 have hal:Tryz.prog.arrayLen 379=65:=by kernel_rfl
 have hel:Tryz.prog.elem 379=5:=by kernel_rfl
 have hs:(sizeOf 5).run Tryz.prog W=.ok 1 W:=Tryz.sizeOf5 W
 have ht:Tryz.prog.underlying 379=some (.array 65 5):=Tryz.underlying379
 rw [run_sliceAt_array_l W 379 ⟨b,0,none⟩ (by simp [Program.arrayLen,Program.elem,ht]) .i64 (j:Int) (by omega) (by rw [hal];omega),hel,hs,hal]
 simp [slicedAt]
 rw [if_neg (by omega)]
 unfold Addr.add
 split
 ·next h0=>simp [h0]
 ·simp
theorem Deb.below {w w':World} (h:Deb w) (hb:Below w.heap.size w w'):Deb w':=by
 have h8:8<w.heap.size:=by
  rcases Nat.lt_or_ge 8 w.heap.size with h1|h1
  ·exact h1
  ·exfalso
   unfold Deb World.cell? at h
   simp [Array.getElem?_eq_none h1] at h
 exact (hb.cell (p:=⟨8,15,none⟩) h8).trans h
def EH (acc:List UInt8):Array Value:=(List.replicate (65-acc.length) (Value.int .u8 0)++acc.map (fun b=>Value.int .u8 (b.toNat:Int))).toArray
theorem sL {acc:List UInt8} (h:acc.length<=65):(EH acc).size=65:=by simp [EH];omega
theorem X5 {acc:List UInt8} {j:Nat} (b:UInt8) (h:j+1+acc.length=65):(EH acc).setIfInBounds j (.int .u8 (b.toNat:Int))=EH (b::acc):=by
 unfold EH
 rw [lA1]
 congr 1
 have e1:65-acc.length=j+1:=by omega
 have e2:65-(b::acc).length=j:=by simp only [List.length_cons];omega
 rw [e1,e2,List.set_append_left _ _ (by simp),List.replicate_succ',List.set_append_right _ _ (by simp)]
 simp
theorem sM {acc:List UInt8} {w:World} {g j:Nat} (h:w.heap[g]?=some (.cells (EH acc) 379 (0,0))) (hj:j+acc.length=65) (k:Nat) (hk:k<acc.length):w.cell? ((⟨g,j,none⟩:Addr).add k)=some (.int .u8 (acc[k].toNat:Int)):=by
 have ea:(⟨g,j,none⟩:Addr).add k=⟨g,j+k,none⟩:=by
  unfold Addr.add
  split
  ·next h0=>simp [h0]
  ·rfl
 rw [ea,(AB h).1]
 unfold EH
 have e1:65-acc.length=j:=by omega
 rw [e1]
 simp [List.getElem?_append_right,hk]
theorem sN (n:Nat) (hn:n<18446744073709551616) (w:World) (h:Deb w) :
  Calls Tryz.prog 183 #[.slice none 0 0,.int .u64 (n:Int),.int .i64 16,.bool false,.bool false] w fun e w'=>e=.returned (.tuple #[.slice none 0 0,.string ⟨(CZ n).toArray⟩])/\Below w.heap.size w w':=by
 have HD:=AA h
 clear h
 go_enter Tryz.func183,Tryz.ntmps183
 go_wp2_with fail
 have hz:Tryz.zeroCells379=EH []:=by kernel_rfl
 rw [hz]
 have hb1:=bA (b0 w) (.cells (EH []) 379)
 have f1:=na w (EH []) 379
 generalize w.alloc (.cells (EH []) 379)=w1 at *
 have HD1:=AA (HD.out.below hb1)
 clear hz HD
 refine (sH _).mono ?_
 rintro e w2 ⟨rfl,rfl⟩
 go_wp2_with fail
 refine (sG _ HD1.out).mono ?_
 rintro e w3 ⟨rfl,rfl⟩
 clear HD1
 go_wp2_with fail
 go_loopw [1,13] (fun v1 v13 wr=>∃(u i:Nat) (acc:List UInt8),v1=.int .u64 (u:Int)/\v13=.int .i64 (i:Int)/\u<=n/\Hid (CZ n=CZ u++acc)/\Hid (i+acc.length=65)/\Hid (u*16 ^ acc.length<=n/\(acc=[]∨1<=u))/\(wr.heap[w.heap.size]?=some (.cells (EH acc) 379 (0,0)))/\Hid (Below w.heap.size w wr)) (fun v1 _ _=>(intOf v1).toNat)
 case atStart=>exact ⟨n,65,[],rfl,rfl,Nat.le_refl _,AA (by simp),AA rfl,AA ⟨by simp,.inl rfl⟩,f1,AA hb1⟩
 case round=>
  obtain ⟨u,i,acc,rfl,rfl,hu,HX,HIA,HU,fr,HB⟩:=hrel
  have hacc:acc.length<=15:=by
   rcases Nat.lt_or_ge 15 acc.length with h15|h15
   ·obtain ⟨h1,h3⟩:=HU.out
    have h2:16 ^ 16<=16 ^ acc.length:=Nat.pow_le_pow_right (by decide) h15
    rcases h3 with rfl|hu0
    ·simp at h15
    ·have:1*16 ^ 16<=u*16 ^ acc.length:=Nat.mul_le_mul hu0 h2
     omega
   ·exact h15
  obtain ⟨j,hj⟩:∃j,i=j+1:=⟨i-1,by have:=HIA.out;omega⟩
  have HJ:=AA (show j+1+acc.length=65 by have:=HIA.out;omega)
  subst hj
  have hj64:j<=64:=by have:=HJ.out;omega
  have hm:=sI u (by omega)
  have hdg:=X3 (u%16) (Nat.mod_lt _ (by decide))
  have hrs:=sL (acc:=acc) (by omega)
  by_cases h16:16<=u
  ·have e1:decide ((16:Int)<=(u:Int))=true:=decide_eq_true (by omega)
   go_wp2_with (first
    | (refine X4 rfl 9 _ _ rfl (.string SL) (.int .u64 ((u%16:Nat):Int)) _ rfl rfl (hdg _) ?_;simp only [Act.put,lA1,lZ1,lS1])
    | (refine FF rfl 5 _ _ rfl w.heap.size j 379 (EH acc) .u8 _ rfl rfl fr (by rw [hrs];omega) (fun w=>Tryz.sizeOf5 w) ?_;rw [X5 _ HJ.out];generalize hT4:setRow wr _ _=w4;obtain ⟨hx4,f4⟩:=AK (b0 _) fr hT4;have HB4:=AA (bX HB.out hx4 (Nat.le_refl _));clear hT4 hx4))
   refine ⟨⟨u/16,j,C6 (u%16)::acc,by simp,rfl,by omega,AA ?_,AA (by have:=HJ.out;simp only [List.length_cons];omega),AA ⟨?_,.inr (by omega)⟩,f4,HB4⟩,?_⟩
   ·rw [HX.out,show CZ u=CZ (u/16)++[C6 (u%16)] by rw [CZ,if_neg (by omega)],List.append_assoc]
    rfl
   ·have h1:=HU.out.1
    rw [List.length_cons,Nat.pow_succ,Nat.mul_comm (16 ^ acc.length) 16,<-Nat.mul_assoc]
    exact Nat.le_trans (Nat.mul_le_mul_right _ (Nat.div_mul_le_self u 16)) h1
   ·simp [intOf];omega
  ·have e1:decide ((16:Int)<=(u:Int))=false:=decide_eq_false (by omega)
   have hdu:=X3 u (by omega)
   have HXE:Hid (CZ n=C6 u::acc):=AA (by rw [HX.out,CZ,if_pos (by omega)];rfl)
   have hle:(C6 u::acc).length=65-j:=by have:=HJ.out;simp only [List.length_cons];omega
   have hsl:∀W,(Instr.sliceAt 379 (.pointer (some ⟨w.heap.size,0,none⟩)) (some (.int .i64 (j:Int))) none none).run Tryz.prog W=.ok (.slice (some ⟨w.heap.size,j,none⟩) (65-j) (65-j)) W:=fun W=>sK W w.heap.size j hj64
   clear hdg hm
   go_wp2_with (first
    | (refine X4 rfl 9 _ _ rfl (.string SL) (.int .u64 (u:Int)) _ rfl rfl (hdu _) ?_;simp only [Act.put,lA1,lZ1,lS1])
    | (refine FF rfl 5 _ _ rfl w.heap.size j 379 (EH acc) .u8 _ rfl rfl fr (by rw [hrs];omega) (fun w=>Tryz.sizeOf5 w) ?_;rw [X5 _ HJ.out];generalize hT4:setRow wr _ _=w4;obtain ⟨hx4,f4⟩:=AK (b0 _) fr hT4;have HB4:=AA (bX HB.out hx4 (Nat.le_refl _));have hcv:=run_convert_bytes_back (P:=Tryz.prog) w4 135 9 5 ⟨w.heap.size,j,none⟩ (65-j) (C6 u::acc) Tryz.underlying135 Tryz.underlying5 Tryz.underlying9 (fun k hk=>sM f4 (by omega) k hk);rw [hle] at hcv;clear hT4 hx4)
    | (refine sJ rfl 135 9 _ rfl (.slice (some ⟨w.heap.size,j,none⟩) (65-j) (65-j)) _ rfl hcv ?_;simp only [Act.put,lA1,lZ1,lS1]))
   go_ret2
   exact ⟨by rw [HXE.out];rfl,HB4.out⟩
theorem sO (n:Nat) (hn:n<18446744073709551616) (w:World) (h:Deb w):Calls Tryz.prog 122 #[.int .u64 (n:Int),.int .i64 16] w fun e w'=>e=.returned (.string ⟨(CZ n).toArray⟩)/\Below w.heap.size w w':=by
 have c183:=sN n hn w h
 have c188:Calls Tryz.prog 188 #[.int .u64 (n:Int),.int .i64 16] w fun e w'=>e=.returned (.string ⟨(CZ n).toArray⟩)/\Below w.heap.size w w':=by
  generalize (⟨(CZ n).toArray⟩:ByteArray)=S at *
  go_enter Tryz.func188,Tryz.ntmps188
  go_wp2_with fail
  refine c183.mono ?_
  rintro e w2 ⟨rfl,hb⟩
  go_wp2
  go_ret
  exact ⟨rfl,hb⟩
 generalize (⟨(CZ n).toArray⟩:ByteArray)=S at *
 go_enter Tryz.func122,Tryz.ntmps122
 go_wp2_with fail
 refine c188.mono ?_
 rintro e w2 ⟨rfl,hb⟩
 go_wp2
 go_ret
 exact ⟨rfl,hb⟩
end Go.Proofs.YtlnonecibpjcoaaGreatDoor
/-
 DERIVED: THE SHELF's CONTRACTS AT THIS DUMP,IN PLAIN WORDS (tools/lay-plain.mjs out of 'TryzShelf.lean',which tools/lay-shelf.mjs wrote): THE SAME DECLARATIONS UNDER THE SAME NAMES: 'import','namespace','open','def','theorem' AND NOTHING ELSE: no command of the shelf's: FOR A HAND-IN. Each laying: the table of numbers ('.._ren') and one theorem,a field a fact of the dump's own or the kernel's comparison;each contract: ONE APPLICATION.
-/
namespace Go.Proofs
open Go.Shelf
def Tryz.lays105_ren:Go.Shelf.Ren:=⟨fun|105=>123|212=>189|99=>19|165=>107|166=>108|170=>190|169=>109|263=>256|264=>257|206=>46|240=>178|241=>179|276=>248|277=>249|n=>n,fun|9=>9|3=>3|4=>4|20=>20|0=>0|46=>207|109=>292|5=>5|72=>189|76=>193|51=>294|146=>295|53=>27|148=>382|70=>187|37=>135|75=>192|127=>284|164=>374|80=>88|n=>n,fun|n=>n⟩
theorem Tryz.lays105:Go.Proofs.Lays.n105 Tryz.prog Tryz.lays105_ren:={
 mixed:=by kernel_rfl
 f99:=Tryz.func19.trans (congrArg some (by kernel_rfl))
 f105:=Tryz.func123.trans (congrArg some (by kernel_rfl))
 f165:=Tryz.func107.trans (congrArg some (by kernel_rfl))
 f166:=Tryz.func108.trans (congrArg some (by kernel_rfl))
 f169:=Tryz.func109.trans (congrArg some (by kernel_rfl))
 f170:=Tryz.func190.trans (congrArg some (by kernel_rfl))
 f206:=Tryz.func46.trans (congrArg some (by kernel_rfl))
 f212:=Tryz.func189.trans (congrArg some (by kernel_rfl))
 f240:=Tryz.func178.trans (congrArg some (by kernel_rfl))
 f241:=Tryz.func179.trans (congrArg some (by kernel_rfl))
 f263:=Tryz.func256.trans (congrArg some (by kernel_rfl))
 f264:=Tryz.func257.trans (congrArg some (by kernel_rfl))
 f276:=Tryz.func248.trans (congrArg some (by kernel_rfl))
 f277:=Tryz.func249.trans (congrArg some (by kernel_rfl))
 t0:=Tryz.underlying0
 a0:=Tryz.isAgg0
 z0:=Tryz.sizeOf0
 v0:=Tryz.zeroValue0
 t3:=Tryz.underlying3
 a3:=Tryz.isAgg3
 z3:=Tryz.sizeOf3
 v3:=Tryz.zeroValue3
 t4:=Tryz.underlying4
 a4:=Tryz.isAgg4
 z4:=Tryz.sizeOf4
 v4:=Tryz.zeroValue4
 t5:=Tryz.underlying5
 a5:=Tryz.isAgg5
 z5:=Tryz.sizeOf5
 v5:=Tryz.zeroValue5
 t9:=Tryz.underlying9
 a9:=Tryz.isAgg9
 z9:=Tryz.sizeOf9
 v9:=Tryz.zeroValue9
 t20:=Tryz.underlying20
 a20:=Tryz.isAgg20
 z20:=Tryz.sizeOf20
 v20:=Tryz.zeroValue20
 t37:=Tryz.underlying135
 a37:=Tryz.isAgg135
 z37:=Tryz.sizeOf135
 v37:=Tryz.zeroValue135
 t46:=Tryz.underlying207
 a46:=Tryz.isAgg207
 z46:=Tryz.sizeOf207
 v46:=Tryz.zeroValue207
 t51:=Tryz.underlying294
 a51:=Tryz.isAgg294
 z51:=Tryz.sizeOf294
 v51:=Tryz.zeroValue294
 t53:=Tryz.underlying27
 a53:=Tryz.isAgg27
 z53:=Tryz.sizeOf27
 v53:=Tryz.zeroValue27
 t70:=Tryz.underlying187
 a70:=Tryz.isAgg187
 z70:=Tryz.sizeOf187
 v70:=Tryz.zeroValue187
 t72:=Tryz.underlying189
 a72:=Tryz.isAgg189
 z72:=Tryz.sizeOf189
 v72:=Tryz.zeroValue189
 t75:=Tryz.underlying192
 a75:=Tryz.isAgg192
 z75:=Tryz.sizeOf192
 v75:=Tryz.zeroValue192
 t76:=Tryz.underlying193
 a76:=Tryz.isAgg193
 z76:=Tryz.sizeOf193
 v76:=Tryz.zeroValue193
 t109:=Tryz.underlying292
 a109:=Tryz.isAgg292
 z109:=Tryz.sizeOf292
 v109:=Tryz.zeroValue292
 t127:=Tryz.underlying284
 a127:=Tryz.isAgg284
 z127:=Tryz.sizeOf284
 v127:=Tryz.zeroValue284
 t146:=Tryz.underlying295
 a146:=Tryz.isAgg295
 z146:=Tryz.sizeOf295
 v146:=Tryz.zeroValue295
 t148:=Tryz.underlying382
 a148:=Tryz.isAgg382
 z148:=Tryz.sizeOf382
 v148:=Tryz.zeroValue382
 t164:=Tryz.underlying374
 a164:=Tryz.isAgg374
 z164:=Tryz.sizeOf374
 v164:=Tryz.zeroValue374 }
theorem Tryz.Builder_Extra_105:Builder.Extra Tryz.prog Tryz.lays105_ren:={
 sizeBuilder:=by kernel_rfl
 liesBuilder:=by kernel_rfl
 t5:=Tryz.underlying5
 a5:=Tryz.isAgg5
 z5:=Tryz.sizeOf5
 v5:=Tryz.zeroValue5
 infoByte:=by kernel_rfl
 cellsByte:=by kernel_rfl
 sizeByte:=by kernel_rfl
 neB5:=by decide }
open Go.RowKit Go.Lib in
theorem Tryz.strings_Repeat (s:ByteArray) (c:Nat) (w:World) (hc:c<=9223372036854775807) (hlen:s.size*c<=140737488355328) :
  Calls Tryz.prog 123 #[.string s,.int .i64 c] w fun e w'=>e=.returned (.string ⟨(Lib.repeatL s.data.toList c).toArray⟩)/\Below w.heap.size w w':=Any.strings_Repeat Tryz.lays105 Tryz.Builder_Extra_105 s c w hc hlen
end Go.Proofs
namespace Go.Proofs.YtlnonecibpjcoaaGreatDoor
open Go.RowKit
attribute [local go_sem] Oper.semAt_some
def FO (n:Nat):ByteArray:=⟨(C7 16 n).toArray⟩
theorem X6 (n:Nat):(FO n).size=16:=by show (C7 16 n).toArray.size=16;simp [X0]
theorem X7 (k:Nat):Lib.repeatL [48] k=List.replicate k 48:=by
 induction k with
 | zero=>rfl
 | succ k ih=>rw [Lib.repeatL,ih];rfl
theorem sQ (n:Nat) (hn:n<18446744073709551616) (w:World) (h:Deb w):Calls Tryz.prog 75 #[.int .u64 (n:Int)] w fun e w'=>e=.returned (.string (FO n))/\Below w.heap.size w w':=by
 obtain ⟨h1,h2⟩:=X2 15 n (by simpa using hn)
 have c1:=sO n hn w h
 obtain ⟨S,hS⟩:∃S:ByteArray,S=⟨(CZ n).toArray⟩:=⟨_,rfl⟩
 have hSz:S.size=(CZ n).length:=by rw [hS];rfl
 obtain ⟨k,hk⟩:∃k,k=16-S.size:=⟨_,rfl⟩
 have hks:k+S.size=16:=by omega
 have HE:Hid ((⟨(Lib.repeatL (⟨#[48]⟩:ByteArray).data.toList k).toArray⟩:ByteArray)++S=FO n):=AA (by
  apply ByteArray.ext
  rw [ByteArray.data_append]
  unfold FO
  rw [h2,hS,hk,hSz]
  rw [show (⟨#[48]⟩:ByteArray).data.toList=[48] from rfl,X7]
  simp)
 have c2:=fun W=>Tryz.strings_Repeat ⟨#[48]⟩ k W (by omega) (by show 1*k<=_;omega)
 have e1:(16:Int)-(S.size:Int)=(k:Int):=by omega
 rw [<-hS] at c1
 clear h1 h2 hSz hk hS
 go_enter Tryz.func75,Tryz.ntmps75
 go_wp2_with fail
 refine c1.mono ?_
 rintro e w2 ⟨rfl,hb2⟩
 go_wp2_with fail
 refine (c2 _).mono ?_
 rintro e w3 ⟨rfl,hb3⟩
 have hB:=AA (bB hb2 hb3)
 have hps:(⟨(Lib.repeatL (⟨#[48]⟩:ByteArray).data.toList k).toArray⟩:ByteArray).size<=16:=by
  show (Lib.repeatL [48] k).toArray.size<=16
  rw [X7];simp;omega
 have hss:S.size<=16:=by omega
 generalize (⟨(Lib.repeatL (⟨#[48]⟩:ByteArray).data.toList k).toArray⟩:ByteArray)=P at *
 clear hb2 hb3 c1 c2
 go_wp2
 go_ret
 exact ⟨by rw [HE.out];rfl,hB.out⟩
structure CmOK (c:Cm):Prop where
 n:AF c.n
 me:AF c.me
 mf:AF c.mf
 ms:AF c.ms
 qa:AF c.qa
 qb:AF c.qb
 qN:AF c.qN
 t:AF c.t
 bits:0<=c.bits/\c.bits<18446744073709551616
 masks:∀x ∈ c.masks,AF x
 pts:∀p ∈ c.pts,AF p.1/\AF p.2
 mlen:c.masks.length<=1000
 plen:c.pts.length<=1000
def CF (c:Cm):List ByteArray :=
 if c.kind=2 then [B2,AJ c.n] else if c.kind=3 then [B3]++c.masks.map AJ else if c.kind≠1 then []
 else if c.ok=1 then JP c.mkd c.mn c.me c.mf c.ms c.pts else if c.ok=2 then [CV] else if c.ok=3 then [CW] else if c.ok=4 then [CX]
 else if c.ok=5 then FN c.qk c.qn c.qa c.qb c.qw c.qN else if c.ok=6 then [EP,c.nm,AJ c.t,FO c.bits.toNat] else []
theorem sR {W:World} {ops:List Oper} {Q:Act->Abs.St->Prop} {rest:List Nat} {i:Nat} {o:Oper} {a:Act} {s:Abs.St} (ho:ops[i]?=some o) (hw:Region.wanted o (yielded ops.toArray a.tmps)=true) (hk:Abs.kindOf o=.k) (ht:s.t=false)
  (x y:Operand) (hop:o.op=.call { callee:=.builtin .append,args:=#[x,y],argTypes:=#[66,66] }) (l m:List Value) (g:Nat) (A:Option Addr) (n k c:Nat) (hx:a.eval x=.slice (some ⟨g,0,none⟩) n n) (hn:n=l.length) (hy:a.eval y=.slice A k c) (hkm:k=m.length) (h0:0<m.length) (hlen:l.length+m.length<=1048576)
  (hc:∀w,Below W.heap.size W w->(∀j,Abs.reach ops.toArray i j=true->s.F j w)->w.heap[g]?=some (.cells l.toArray 9 (0,0))/\InV w A m)
  (h2:∀K:Act->Abs.St->Prop,(∀a s,Abs.wpOrd Tryz.prog ops.toArray (Abs.cls0 W) Q rest a s->K a s)->∀v w,AX 9 W.heap.size w v (l++m)->K (a.put o.dst v) (s.setF i (fun w=>AX 9 W.heap.size w v (l++m)))):Abs.wpOrd Tryz.prog ops.toArray (Abs.cls0 W) Q (i::rest) a s:=by
 subst hn hkm
 refine Abs.step_does0 ho (.inr (.inl ⟨hw,hk,ht,fun v w=>AX 9 W.heap.size w v (l++m),fun v=>XZ,fun w hI hF=>?_,fun v hg=>?_⟩))
 ·obtain ⟨c1,c2⟩:=hc w hI hF
  obtain ⟨i0,hi0,hz0,hz1,hz2⟩:=info_parts D4
  have k1:∀j u,l[j]?=some u->w.cell? ((⟨g,0,none⟩:Addr).add j)=some u:=fun j u hu=>by
   rw [show (⟨g,0,none⟩:Addr).add j=⟨g,j,none⟩ by
    unfold Addr.add
    split
    ·next h0=>simp [h0]
    ·simp]
   rw [(AB c1).1];simpa using hu
  obtain ⟨ad,rfl,-,k3⟩:=c2 h0
  have k2:∀j u,m[j]?=some u->w.cell? (ad.add j)=some u:=fun j u hu=>by
   have hj:=(List.getElem?_eq_some_iff.1 hu).1
   rw [k3 j hj,<-hu,List.getElem?_eq_getElem hj]
  obtain ⟨v',w',hrun,hown,hgr⟩:=run_append_arg_grows (P:=Tryz.prog) (w:=w) 66 o.type 9 i0 (.string ByteArray.empty) 1 16 Tryz.underlying66 hi0 hz0 hz1 hz2 rfl (by decide) ⟨g,0,none⟩ l.length l.length l (by omega) k1 ad m.length c m (by omega) k2 (by omega) (by simp only [maxLen];omega) (by omega)
  unfold Abs.nonq
  have he:(execOp a.eval o).run Tryz.prog w=.ok (.value v') w':=by
   unfold execOp
   simp only [hop,resolve,invoke,builtin,Sem.run_bind,Sem.run_pure,Result.andThen_ok,List.map_toArray,List.map_cons,List.map_nil,hx,hy]
   rw [hrun]
   rfl
  rw [he]
  obtain ⟨r1,r2,r3,r4,r5⟩:=hgr
  refine ⟨⟨r1,r2,r3,r4,fun k hk _=>r5 k hk (by intro e;cases e)⟩,?_⟩
  obtain ⟨o1,o2⟩:=hown
  refine ⟨by simp,?_⟩
  rcases o2 with ⟨rfl,e⟩|⟨b,cap,cur,rfl,hb,hg,hn,hm,hs,ht⟩
  ·exfalso;omega
  ·exact .inr ⟨b,cap,cur,by rw [List.length_append],Nat.le_trans hI.size hb,hg,by rw [List.length_append];exact hn,hm,hs,by simpa using ht⟩
 ·obtain ⟨⟨w,_,w0,_,hF,_⟩,_⟩:=hg
  exact h2 _ (fun _ _ h=>h) v w0 ((hF i).2 rfl)
theorem sS (c:Cm) (hc:CmOK c) (A:Option Addr) (ac:Nat) (M:Option Addr) (mc:Nat) (w:World) (hL:Laid w) (hD:Deb w) (hA:InV w A (AU c.pts)) (hM:InV w M (AH c.masks)) :
  Calls Tryz.prog 43 #[.agg (c.cs A ac M mc)] w fun e w'=>∃v,e=.returned v/\BR w' v (CF c)/\Below w.heap.size w w':=by
 obtain ⟨R,hR⟩:∃R,R=CF c:=⟨_,rfl⟩
 rw [<-hR]
 unfold CF at hR
 obtain ⟨cn,cme,cmf,cms,cqa,cqb,cqN,ct,cbits,cmasks,cpts,cml,cpl⟩:=hc
 obtain ⟨kind,ok,mkd,mnn,me,mf,ms,pts,qk,qn,qa,qb,qw,qN,nm,t,bits,n,masks⟩:=c
 unfold Cm.cs AI
 simp only at *
 obtain ⟨pn,hpn⟩:∃pn,pn=pts.length:=⟨_,rfl⟩
 obtain ⟨mn,hmn⟩:∃mn,mn=masks.length:=⟨_,rfl⟩
 rw [<-hpn,<-hmn]
 have hmn2:mn<=1000:=by omega
 have HPN:=AA hpn
 have HMN:=AA hmn
 have HL:=AA (fun W (hb:Below w.heap.size w W)=>hL.below hb)
 have HDB:=AA (fun W (hb:Below w.heap.size w W)=>hD.below hb)
 have HA:=AA (fun W (hb:Below w.heap.size w W)=>hA.below hb)
 have HM:=AA (fun W (hb:Below w.heap.size w W)=>hM.below hb)
 have HI:=AA (And.intro cn (And.intro cme (And.intro cmf (And.intro cms (And.intro cqa (And.intro cqb (And.intro cqN ct)))))))
 have HBI:=AA cbits
 have HMS:=AA cmasks
 have HPS:=AA cpts
 have HPL:=AA cpl
 clear hL hD hA hM hpn hmn cn cme cmf cms cqa cqb cqN ct cbits cmasks cpts cml cpl
 by_cases h2:kind=2
 ·subst h2
  rw [if_pos rfl] at hR
  have HR:=AA hR
  have hO:AX 9 w.heap.size ((w.alloc (.cells #[.int .i64 2,.int .i64 ok,.int .i64 mkd,.string mnn,.int .i64 me,.int .i64 mf,.int .i64 ms,.slice A pn ac,.int .i64 qk,.string qn,.int .i64 qa,.int .i64 qb,.int .i64 qw,.int .i64 qN,.string nm,.int .i64 t,.int .u64 bits,.int .i64 n,.slice M mn mc] 48)).alloc (.cells #[.string B2] 9)) (.slice (some ⟨(w.alloc (.cells #[.int .i64 2,.int .i64 ok,.int .i64 mkd,.string mnn,.int .i64 me,.int .i64 mf,.int .i64 ms,.slice A pn ac,.int .i64 qk,.string qn,.int .i64 qa,.int .i64 qb,.int .i64 qw,.int .i64 qN,.string nm,.int .i64 t,.int .u64 bits,.int .i64 n,.slice M mn mc] 48)).heap.size,0,none⟩) 1 1) (AC [B2]):=AX.built (w.alloc (.cells #[.int .i64 2,.int .i64 ok,.int .i64 mkd,.string mnn,.int .i64 me,.int .i64 mf,.int .i64 ms,.slice A pn ac,.int .i64 qk,.string qn,.int .i64 qa,.int .i64 qb,.int .i64 qw,.int .i64 qN,.string nm,.int .i64 t,.int .u64 bits,.int .i64 n,.slice M mn mc] 48)) [.string B2] (by simp) (by simp)
  simp only [World.size_alloc] at hO
  have hb1:Below w.heap.size w ((w.alloc (.cells #[.int .i64 2,.int .i64 ok,.int .i64 mkd,.string mnn,.int .i64 me,.int .i64 mf,.int .i64 ms,.slice A pn ac,.int .i64 qk,.string qn,.int .i64 qa,.int .i64 qb,.int .i64 qw,.int .i64 qN,.string nm,.int .i64 t,.int .u64 bits,.int .i64 n,.slice M mn mc] 48)).alloc (.cells #[.string B2] 9)):=bA (bA (b0 w) _) _
  have fr:=kp (bA (b0 _) (.cells #[.string B2] 9)) (na w #[.int .i64 2,.int .i64 ok,.int .i64 mkd,.string mnn,.int .i64 me,.int .i64 mf,.int .i64 ms,.slice A pn ac,.int .i64 qk,.string qn,.int .i64 qa,.int .i64 qb,.int .i64 qw,.int .i64 qN,.string nm,.int .i64 t,.int .u64 bits,.int .i64 n,.slice M mn mc] 48)
  have z1:=(AB fr).1
  have HO:=AA hO
  have HB1:=AA hb1
  clear hO hb1 fr hR
  go_enter Tryz.func43,Tryz.ntmps43
  go_wp2_with fail
  clear z1
  refine (K7 [n] (by simp) (GI HI.out.1) _ 1 _ ((w.alloc (.cells #[.int .i64 2,.int .i64 ok,.int .i64 mkd,.string mnn,.int .i64 me,.int .i64 mf,.int .i64 ms,.slice A pn ac,.int .i64 qk,.string qn,.int .i64 qa,.int .i64 qb,.int .i64 qw,.int .i64 qN,.string nm,.int .i64 t,.int .u64 bits,.int .i64 n,.slice M mn mc] 48)).alloc (.cells #[.string B2] 9)) rfl rfl (by simp) (HL.out _ HB1.out)).mono ?_
  rintro e' w5 ⟨A5,rfl,hb5,hr5⟩
  have hb15:=bB (bA (b0 ((w.alloc (.cells #[.int .i64 2,.int .i64 ok,.int .i64 mkd,.string mnn,.int .i64 me,.int .i64 mf,.int .i64 ms,.slice A pn ac,.int .i64 qk,.string qn,.int .i64 qa,.int .i64 qb,.int .i64 qw,.int .i64 qN,.string nm,.int .i64 t,.int .u64 bits,.int .i64 n,.slice M mn mc] 48)).alloc (.cells #[.string B2] 9))) (.cells #[.int .i64 n] 2)) hb5
  have HO5:=AA (HO.out.lift hb15)
  have HI5:=AA hr5.inV
  have HB5:=AA (HB1.out.trans (hb15.mono (by simp;omega)))
  have hs5:w.heap.size<=w5.heap.size:=HB5.out.size
  clear hb5 hr5 hb15
  go_wp2_with (refine EW rfl _ _ _ rfl 16 Tryz.underlying66 D4 rfl (by decide) w.heap.size _ _ (AC [AJ n]) _ _ rfl rfl HO5.out HI5.out (F5 _) (by simp [AC]) hs5 ?_;intro v6 w6 hO6 hlow6 hsz6)
  go_ret
  refine ⟨_,rfl,?_,hlow6 w HB5.out⟩
  rw [HR.out]
  exact BR.of (ss:=[B2,AJ n]) hO6
 rw [if_neg h2] at hR
 have m2:(kind== 2)=false:=beq_eq_false_iff_ne.2 h2
 have m2':decide (kind=2)=false:=decide_eq_false h2
 by_cases h3:kind=3
 ·subst h3
  rw [if_pos rfl] at hR
  have HR:=AA hR
  have hO:AX 9 w.heap.size ((w.alloc (.cells #[.int .i64 3,.int .i64 ok,.int .i64 mkd,.string mnn,.int .i64 me,.int .i64 mf,.int .i64 ms,.slice A pn ac,.int .i64 qk,.string qn,.int .i64 qa,.int .i64 qb,.int .i64 qw,.int .i64 qN,.string nm,.int .i64 t,.int .u64 bits,.int .i64 n,.slice M mn mc] 48)).alloc (.cells #[.string B3] 9)) (.slice (some ⟨(w.alloc (.cells #[.int .i64 3,.int .i64 ok,.int .i64 mkd,.string mnn,.int .i64 me,.int .i64 mf,.int .i64 ms,.slice A pn ac,.int .i64 qk,.string qn,.int .i64 qa,.int .i64 qb,.int .i64 qw,.int .i64 qN,.string nm,.int .i64 t,.int .u64 bits,.int .i64 n,.slice M mn mc] 48)).heap.size,0,none⟩) 1 1) (AC [B3]):=AX.built (w.alloc (.cells #[.int .i64 3,.int .i64 ok,.int .i64 mkd,.string mnn,.int .i64 me,.int .i64 mf,.int .i64 ms,.slice A pn ac,.int .i64 qk,.string qn,.int .i64 qa,.int .i64 qb,.int .i64 qw,.int .i64 qN,.string nm,.int .i64 t,.int .u64 bits,.int .i64 n,.slice M mn mc] 48)) [.string B3] (by simp) (by simp)
  simp only [World.size_alloc] at hO
  have hb1:Below w.heap.size w ((w.alloc (.cells #[.int .i64 3,.int .i64 ok,.int .i64 mkd,.string mnn,.int .i64 me,.int .i64 mf,.int .i64 ms,.slice A pn ac,.int .i64 qk,.string qn,.int .i64 qa,.int .i64 qb,.int .i64 qw,.int .i64 qN,.string nm,.int .i64 t,.int .u64 bits,.int .i64 n,.slice M mn mc] 48)).alloc (.cells #[.string B3] 9)):=bA (bA (b0 w) _) _
  have fr:=kp (bA (b0 _) (.cells #[.string B3] 9)) (na w #[.int .i64 3,.int .i64 ok,.int .i64 mkd,.string mnn,.int .i64 me,.int .i64 mf,.int .i64 ms,.slice A pn ac,.int .i64 qk,.string qn,.int .i64 qa,.int .i64 qb,.int .i64 qw,.int .i64 qN,.string nm,.int .i64 t,.int .u64 bits,.int .i64 n,.slice M mn mc] 48)
  have z1:=(AB fr).1
  have HO:=AA hO
  have HB1:=AA hb1
  clear hO hb1 fr hR m2 m2' h2
  go_enter Tryz.func43,Tryz.ntmps43
  go_wp2_with fail
  clear z1
  go_loopw [3,24] (fun v3 v24 wr=>∃k:Nat,v24=.int .i64 (k:Int)/\k<=mn/\Hid (AX 9 w.heap.size wr v3 (AC ([B3]++(masks.take k).map AJ)))/\Hid (Below w.heap.size w wr)) (fun _ v24 _=>mn-(intOf v24).toNat)
  case atStart=>exact ⟨0,rfl,by omega,by simp only [List.take_zero,List.map_nil,List.append_nil];exact HO,HB1⟩
  case round=>
   obtain ⟨k,rfl,hk,HOk,HBr⟩:=hrel
   by_cases hlt:k<mn
   ·have e1:decide ((k:Int)<(mn:Int))=true:=decide_eq_true (by omega)
    have hk1:k<masks.length:=by have:=HMN.out;omega
    have hMr:=HM.out wr HBr.out
    obtain ⟨adM,rfl,-,hcM⟩:=hMr (by rw [BL];omega)
    have c1:=hcM k (by rw [BL];omega)
    have HX:=AA (HMS.out _ (List.getElem_mem hk1))
    have HW:Hid (AC ([B3]++(masks.take (k+1)).map AJ)=AC ([B3]++(masks.take k).map AJ)++AC [AJ masks[k]]):=AA (by
     rw [<-XV,List.take_succ_eq_append_getElem hk1,List.map_append,<-List.append_assoc];rfl)
    have HLN:Hid ((AC ([B3]++(masks.take k).map AJ)).length<=4000):=AA (by
     rw [BG,List.length_append,List.length_map,List.length_take]
     simp only [List.length_cons,List.length_nil]
     omega)
    have ex:(AH masks)[k]'(by rw [BL];omega)=.int .i64 masks[k]:=by simp [AH]
    rw [ex] at c1
    generalize masks[k]=x at *
    clear hcM ex hk1 hMr
    go_wp2_with fail
    refine (K7 [x] (by simp) (GI HX.out) _ 1 _ wr rfl rfl rfl (HL.out _ HBr.out)).mono ?_
    rintro e' w5 ⟨A5,rfl,hb5,hr5⟩
    have HB5:=AA (bB (bA (b0 wr) (.cells #[.int .i64 x] 2)) hb5)
    have HO5:=AA (HOk.out.lift HB5.out)
    have HI5:=AA hr5.inV
    have hs5:w.heap.size<=w5.heap.size:=(bB HBr.out HB5.out).size
    clear hb5 hr5 c1
    go_wp2_with (refine EW rfl _ _ _ rfl 16 Tryz.underlying66 D4 rfl (by decide) w.heap.size _ _ (AC [AJ x]) _ _ rfl rfl HO5.out HI5.out (F5 _) (by have:=HLN.out;simp only [BG,List.length_cons,List.length_nil] at this ⊢;omega) hs5 ?_;intro v6 w6 hO6 hlow6 hsz6)
    have HB6:=AA (hlow6 w (bB HBr.out HB5.out))
    have HO6:=AA hO6
    clear hlow6 hO6
    go_roundw
    case rel=>exact ⟨k+1,by go_num,by omega,AA (by rw [HW.out];exact HO6.out),HB6⟩
    case measure=>simp [intOf];omega
   ·have e1:decide ((k:Int)<(mn:Int))=false:=decide_eq_false (by omega)
    have HE2:Hid (R=[B3]++(masks.take k).map AJ):=AA (by rw [HR.out,List.take_of_length_le (by have:=HMN.out;omega)])
    go_wp2_with fail
    go_ret
    exact ⟨_,rfl,by rw [HE2.out];exact BR.of HOk.out,HBr.out⟩
 rw [if_neg h3] at hR
 have m3:(kind== 3)=false:=beq_eq_false_iff_ne.2 h3
 have m3':decide (kind=3)=false:=decide_eq_false h3
 by_cases h1:¬kind=1
 ·rw [if_pos h1] at hR
  have HR:=AA hR
  have n1:(kind== 1)=false:=beq_eq_false_iff_ne.2 h1
  have n1':decide (kind=1)=false:=decide_eq_false h1
  have n2:(kind != 1)=true:=by simpa using h1
  have hb:=bA (b0 w) (.cells #[.int .i64 kind,.int .i64 ok,.int .i64 mkd,.string mnn,.int .i64 me,.int .i64 mf,.int .i64 ms,.slice A pn ac,.int .i64 qk,.string qn,.int .i64 qa,.int .i64 qb,.int .i64 qw,.int .i64 qN,.string nm,.int .i64 t,.int .u64 bits,.int .i64 n,.slice M mn mc] 48)
  go_enter Tryz.func43,Tryz.ntmps43
  go_wp2_with fail
  go_ret
  exact ⟨_,rfl,by rw [HR.out];exact BR.nil _,hb⟩
 replace h1:=Classical.not_not.1 h1
 subst h1
 rw [if_neg (by simp)] at hR
 clear m2 m2' m3 m3' h2 h3
 by_cases o1:ok=1
 ·subst o1
  rw [if_pos rfl] at hR
  have HR:=AA hR
  clear hR
  have hb:=bA (b0 w) (.cells #[.int .i64 1,.int .i64 1,.int .i64 mkd,.string mnn,.int .i64 me,.int .i64 mf,.int .i64 ms,.slice A pn ac,.int .i64 qk,.string qn,.int .i64 qa,.int .i64 qb,.int .i64 qw,.int .i64 qN,.string nm,.int .i64 t,.int .u64 bits,.int .i64 n,.slice M mn mc] 48)
  have HB:=AA hb
  go_enter Tryz.func43,Tryz.ntmps43
  go_wp2_with fail
  rw [HPN.out]
  refine (sD mkd mnn me mf ms HI.out.2.1 HI.out.2.2.1 HI.out.2.2.2.1 A ac pts HPS.out HPL.out _ (HL.out _ (by rw [<-HPN.out];exact HB.out)) (HA.out _ (by rw [<-HPN.out];exact HB.out))).mono ?_
  rintro e' w5 ⟨v5,rfl,hr5,hb5⟩
  rw [<-HPN.out] at hb5
  have hbb:=AA (bB HB.out hb5)
  have HR5:=AA hr5
  clear hb5 hr5
  go_wp2_with fail
  go_ret
  exact ⟨_,rfl,by rw [HR.out];exact HR5.out,hbb.out⟩
 rw [if_neg o1] at hR
 have k1:(ok== 1)=false:=beq_eq_false_iff_ne.2 o1
 have k1':decide (ok=1)=false:=decide_eq_false o1
 by_cases o2:ok=2
 ·subst o2
  rw [if_pos rfl] at hR
  have HR:=AA hR
  clear hR
  have hb2:=bA (bA (b0 w) (.cells #[.int .i64 1,.int .i64 2,.int .i64 mkd,.string mnn,.int .i64 me,.int .i64 mf,.int .i64 ms,.slice A pn ac,.int .i64 qk,.string qn,.int .i64 qa,.int .i64 qb,.int .i64 qw,.int .i64 qN,.string nm,.int .i64 t,.int .u64 bits,.int .i64 n,.slice M mn mc] 48)) (.cells #[.string CV] 9)
  have hO:BR ((w.alloc (.cells #[.int .i64 1,.int .i64 2,.int .i64 mkd,.string mnn,.int .i64 me,.int .i64 mf,.int .i64 ms,.slice A pn ac,.int .i64 qk,.string qn,.int .i64 qa,.int .i64 qb,.int .i64 qw,.int .i64 qN,.string nm,.int .i64 t,.int .u64 bits,.int .i64 n,.slice M mn mc] 48)).alloc (.cells #[.string CV] 9)) (.slice (some ⟨(w.alloc (.cells #[.int .i64 1,.int .i64 2,.int .i64 mkd,.string mnn,.int .i64 me,.int .i64 mf,.int .i64 ms,.slice A pn ac,.int .i64 qk,.string qn,.int .i64 qa,.int .i64 qb,.int .i64 qw,.int .i64 qN,.string nm,.int .i64 t,.int .u64 bits,.int .i64 n,.slice M mn mc] 48)).heap.size,0,none⟩) 1 1) [CV]:=BR.of (B:=w.heap.size) (AX.built (w.alloc (.cells #[.int .i64 1,.int .i64 2,.int .i64 mkd,.string mnn,.int .i64 me,.int .i64 mf,.int .i64 ms,.slice A pn ac,.int .i64 qk,.string qn,.int .i64 qa,.int .i64 qb,.int .i64 qw,.int .i64 qN,.string nm,.int .i64 t,.int .u64 bits,.int .i64 n,.slice M mn mc] 48)) [.string CV] (by simp) (by simp))
  simp only [World.size_alloc] at hO
  have HO:=AA hO
  have HB2:=AA hb2
  clear hO hb2
  go_enter Tryz.func43,Tryz.ntmps43
  go_wp2_with fail
  go_ret
  exact ⟨_,rfl,by rw [HR.out];exact HO.out,HB2.out⟩
 rw [if_neg o2] at hR
 have k2:(ok== 2)=false:=beq_eq_false_iff_ne.2 o2
 have k2':decide (ok=2)=false:=decide_eq_false o2
 by_cases o3:ok=3
 ·subst o3
  rw [if_pos rfl] at hR
  have HR:=AA hR
  clear hR
  have hb2:=bA (bA (b0 w) (.cells #[.int .i64 1,.int .i64 3,.int .i64 mkd,.string mnn,.int .i64 me,.int .i64 mf,.int .i64 ms,.slice A pn ac,.int .i64 qk,.string qn,.int .i64 qa,.int .i64 qb,.int .i64 qw,.int .i64 qN,.string nm,.int .i64 t,.int .u64 bits,.int .i64 n,.slice M mn mc] 48)) (.cells #[.string CW] 9)
  have hO:BR ((w.alloc (.cells #[.int .i64 1,.int .i64 3,.int .i64 mkd,.string mnn,.int .i64 me,.int .i64 mf,.int .i64 ms,.slice A pn ac,.int .i64 qk,.string qn,.int .i64 qa,.int .i64 qb,.int .i64 qw,.int .i64 qN,.string nm,.int .i64 t,.int .u64 bits,.int .i64 n,.slice M mn mc] 48)).alloc (.cells #[.string CW] 9)) (.slice (some ⟨(w.alloc (.cells #[.int .i64 1,.int .i64 3,.int .i64 mkd,.string mnn,.int .i64 me,.int .i64 mf,.int .i64 ms,.slice A pn ac,.int .i64 qk,.string qn,.int .i64 qa,.int .i64 qb,.int .i64 qw,.int .i64 qN,.string nm,.int .i64 t,.int .u64 bits,.int .i64 n,.slice M mn mc] 48)).heap.size,0,none⟩) 1 1) [CW]:=BR.of (B:=w.heap.size) (AX.built (w.alloc (.cells #[.int .i64 1,.int .i64 3,.int .i64 mkd,.string mnn,.int .i64 me,.int .i64 mf,.int .i64 ms,.slice A pn ac,.int .i64 qk,.string qn,.int .i64 qa,.int .i64 qb,.int .i64 qw,.int .i64 qN,.string nm,.int .i64 t,.int .u64 bits,.int .i64 n,.slice M mn mc] 48)) [.string CW] (by simp) (by simp))
  simp only [World.size_alloc] at hO
  have HO:=AA hO
  have HB2:=AA hb2
  clear hO hb2
  go_enter Tryz.func43,Tryz.ntmps43
  go_wp2_with fail
  go_ret
  exact ⟨_,rfl,by rw [HR.out];exact HO.out,HB2.out⟩
 rw [if_neg o3] at hR
 have k3:(ok== 3)=false:=beq_eq_false_iff_ne.2 o3
 have k3':decide (ok=3)=false:=decide_eq_false o3
 by_cases o4:ok=4
 ·subst o4
  rw [if_pos rfl] at hR
  have HR:=AA hR
  clear hR
  have hb2:=bA (bA (b0 w) (.cells #[.int .i64 1,.int .i64 4,.int .i64 mkd,.string mnn,.int .i64 me,.int .i64 mf,.int .i64 ms,.slice A pn ac,.int .i64 qk,.string qn,.int .i64 qa,.int .i64 qb,.int .i64 qw,.int .i64 qN,.string nm,.int .i64 t,.int .u64 bits,.int .i64 n,.slice M mn mc] 48)) (.cells #[.string CX] 9)
  have hO:BR ((w.alloc (.cells #[.int .i64 1,.int .i64 4,.int .i64 mkd,.string mnn,.int .i64 me,.int .i64 mf,.int .i64 ms,.slice A pn ac,.int .i64 qk,.string qn,.int .i64 qa,.int .i64 qb,.int .i64 qw,.int .i64 qN,.string nm,.int .i64 t,.int .u64 bits,.int .i64 n,.slice M mn mc] 48)).alloc (.cells #[.string CX] 9)) (.slice (some ⟨(w.alloc (.cells #[.int .i64 1,.int .i64 4,.int .i64 mkd,.string mnn,.int .i64 me,.int .i64 mf,.int .i64 ms,.slice A pn ac,.int .i64 qk,.string qn,.int .i64 qa,.int .i64 qb,.int .i64 qw,.int .i64 qN,.string nm,.int .i64 t,.int .u64 bits,.int .i64 n,.slice M mn mc] 48)).heap.size,0,none⟩) 1 1) [CX]:=BR.of (B:=w.heap.size) (AX.built (w.alloc (.cells #[.int .i64 1,.int .i64 4,.int .i64 mkd,.string mnn,.int .i64 me,.int .i64 mf,.int .i64 ms,.slice A pn ac,.int .i64 qk,.string qn,.int .i64 qa,.int .i64 qb,.int .i64 qw,.int .i64 qN,.string nm,.int .i64 t,.int .u64 bits,.int .i64 n,.slice M mn mc] 48)) [.string CX] (by simp) (by simp))
  simp only [World.size_alloc] at hO
  have HO:=AA hO
  have HB2:=AA hb2
  clear hO hb2
  go_enter Tryz.func43,Tryz.ntmps43
  go_wp2_with fail
  go_ret
  exact ⟨_,rfl,by rw [HR.out];exact HO.out,HB2.out⟩
 rw [if_neg o4] at hR
 have k4:(ok== 4)=false:=beq_eq_false_iff_ne.2 o4
 have k4':decide (ok=4)=false:=decide_eq_false o4
 by_cases o5:ok=5
 ·subst o5
  rw [if_pos rfl] at hR
  have HR:=AA hR
  clear hR
  have hb:=bA (b0 w) (.cells #[.int .i64 1,.int .i64 5,.int .i64 mkd,.string mnn,.int .i64 me,.int .i64 mf,.int .i64 ms,.slice A pn ac,.int .i64 qk,.string qn,.int .i64 qa,.int .i64 qb,.int .i64 qw,.int .i64 qN,.string nm,.int .i64 t,.int .u64 bits,.int .i64 n,.slice M mn mc] 48)
  have HB:=AA hb
  go_enter Tryz.func43,Tryz.ntmps43
  go_wp2_with fail
  refine (sF qk qn qa qb qw qN HI.out.2.2.2.2.1 HI.out.2.2.2.2.2.1 HI.out.2.2.2.2.2.2.1 _ (HL.out _ HB.out)).mono ?_
  rintro e' w5 ⟨v5,rfl,hr5,hb5⟩
  have hbb:=AA (bB HB.out hb5)
  have HR5:=AA hr5
  clear hb5 hr5
  go_wp2_with fail
  go_ret
  exact ⟨_,rfl,by rw [HR.out];exact HR5.out,hbb.out⟩
 rw [if_neg o5] at hR
 have k5:(ok== 5)=false:=beq_eq_false_iff_ne.2 o5
 have k5':decide (ok=5)=false:=decide_eq_false o5
 by_cases o6:ok=6
 ·subst o6
  rw [if_pos rfl] at hR
  have HR:=AA hR
  clear hR
  obtain ⟨bn,hbn⟩:∃bn:Nat,bits=(bn:Int):=⟨bits.toNat,by have:=HBI.out.1;omega⟩
  subst hbn
  have hbn2:bn<18446744073709551616:=by have:=HBI.out.2;omega
  rw [Int.toNat_natCast] at HR
  obtain ⟨H9,hH9⟩:∃H9,H9=FO bn:=⟨_,rfl⟩
  have cH:=fun W (hb:Below w.heap.size w W)=>sQ bn hbn2 W (HDB.out W hb)
  rw [<-hH9] at cH HR
  clear hH9 HBI
  have fb:=na w #[.int .i64 1,.int .i64 6,.int .i64 mkd,.string mnn,.int .i64 me,.int .i64 mf,.int .i64 ms,.slice A pn ac,.int .i64 qk,.string qn,.int .i64 qa,.int .i64 qb,.int .i64 qw,.int .i64 qN,.string nm,.int .i64 t,.int .u64 (bn:Int),.int .i64 n,.slice M mn mc] 48
  have hb1:=bA (b0 w) (.cells #[.int .i64 1,.int .i64 6,.int .i64 mkd,.string mnn,.int .i64 me,.int .i64 mf,.int .i64 ms,.slice A pn ac,.int .i64 qk,.string qn,.int .i64 qa,.int .i64 qb,.int .i64 qw,.int .i64 qN,.string nm,.int .i64 t,.int .u64 (bn:Int),.int .i64 n,.slice M mn mc] 48)
  go_enter Tryz.func43,Tryz.ntmps43
  go_wp2_with fail
  generalize w.alloc (.cells #[.int .i64 1,.int .i64 6,.int .i64 mkd,.string mnn,.int .i64 me,.int .i64 mf,.int .i64 ms,.slice A pn ac,.int .i64 qk,.string qn,.int .i64 qa,.int .i64 qb,.int .i64 qw,.int .i64 qN,.string nm,.int .i64 t,.int .u64 (bn:Int),.int .i64 n,.slice M mn mc] 48)=w1 at *
  have HB:=AA hb1
  have HL1:=AA (HL.out _ hb1)
  have cH1:=fun W (hb:Below w1.heap.size w1 W)=>cH W (bB HB.out hb)
  clear hb1 cH
  refine Abs.wp_region_tail (Abs.cls0 _) [4,5,6,7,8,0,1,2,3,9,10,11,12,13,14] 15 (by kernel_rfl) (by kernel_rfl) (Below.refl _ _).drew ?_
  iterate 2 (refine Abs.step_pure rfl rfl (fun K hK=>?_);go_simp;(try go_bits);(first|refine hK _ _ ?_|(simp only [↓IntWalk.iteOmega];go_simp;(try go_bits);refine hK _ _ ?_));clear hK K)
  (refine Abs.step_load (v:=?_) rfl rfl (by kernel_rfl) rfl (fun w0 hI=>?_) (fun K hK=>?_);rotate_left;(· have z0:=(AB (kp hI (fb))).1;go_simp;rfl);(simp only [Act.put,lA1,lZ1,lS1];refine hK _ _ ?_;clear hK K))
  (refine Abs.step_new (f:=fun g=>.slice (some ⟨g,0,none⟩) 1 1) (obj:=.cells #[.int .i64 t] 2) rfl rfl rfl rfl (fun w0=>?_) (fun K hK g_i hv_i hu_i=>?_);(· go_simp;try rfl);(simp only [Act.put,lA1,lZ1,lS1];refine hK _ _ ?_;clear hK K))
  (refine Abs.step_call (f:=?_) (args:=?_) rfl rfl rfl rfl (IK [t]) (fun _=>OS _) (fun w0=>?_) (fun w0 hI hF=>?_) (fun K hK v w0 hv=>?_);rotate_left 2;(· go_simp;(constructor <;> rfl));(· exact OT [t] rfl (by simp) (GI HI.out.2.2.2.2.2.2.2) HL1.out hI ((hF 7 (by kernel_rfl)).2 rfl));(obtain ⟨A9,rfl,-⟩:=hv;clear w0;simp only [Act.put,lA1,lZ1,lS1];refine hK _ _ ?_;clear hK K))
  iterate 2 (refine Abs.step_pure rfl rfl (fun K hK=>?_);go_simp;(try go_bits);(first|refine hK _ _ ?_|(simp only [↓IntWalk.iteOmega];go_simp;(try go_bits);refine hK _ _ ?_));clear hK K)
  (refine Abs.step_load (v:=?_) rfl rfl (by kernel_rfl) rfl (fun w0 hI=>?_) (fun K hK=>?_);rotate_left;(· have z0:=(AB (kp hI (fb))).1;go_simp;rfl);(simp only [Act.put,lA1,lZ1,lS1];refine hK _ _ ?_;clear hK K))
  (refine Abs.step_new (f:=fun g=>.slice (some ⟨g,0,none⟩) 2 2) (obj:=.cells #[.string EP,.string nm] 9) rfl rfl rfl rfl (fun w0=>?_) (fun K hK g_s hv_s hu_s=>?_);(· go_simp;try rfl);(simp only [Act.put,lA1,lZ1,lS1];refine hK _ _ ?_;clear hK K))
  (refine sR rfl rfl rfl rfl _ _ rfl [.string EP,.string nm] (AC [AJ t]) g_s _ 2 1 _ rfl rfl rfl rfl (by simp [AC]) (by simp [AC]) (fun w0 hI hF=>⟨(hF 3 (by kernel_rfl)).2 rfl,((hF 8 (by kernel_rfl)).1.2 rfl).inV.2⟩) (fun K hK v9 w0 hv9=>?_);clear hv9 w0;(simp only [Act.put,lA1,lZ1,lS1];refine hK _ _ ?_;clear hK K))
  iterate 2 (refine Abs.step_pure rfl rfl (fun K hK=>?_);go_simp;(try go_bits);(first|refine hK _ _ ?_|(simp only [↓IntWalk.iteOmega];go_simp;(try go_bits);refine hK _ _ ?_));clear hK K)
  (refine Abs.step_load (v:=?_) rfl rfl (by kernel_rfl) rfl (fun w0 hI=>?_) (fun K hK=>?_);rotate_left;(· have z0:=(AB (kp hI (fb))).1;go_simp;rfl);(simp only [Act.put,lA1,lZ1,lS1];refine hK _ _ ?_;clear hK K))
  (refine Abs.step_call_val (f:=?_) (args:=?_) (v:=?_) rfl rfl rfl rfl (fun w0=>?_) (fun w0 hI=>?_) (fun K hK=>?_);rotate_left 3;(· go_simp;(constructor <;> rfl));(· exact cH1 _ hI);(simp only [Act.put,lA1,lZ1,lS1];refine hK _ _ ?_;clear hK K))
  (refine Abs.step_new (f:=fun g=>.slice (some ⟨g,0,none⟩) 1 1) (obj:=.cells #[.string H9] 9) rfl rfl rfl rfl (fun w0=>?_) (fun K hK g_h hv_h hu_h=>?_);(· go_simp;try rfl);(simp only [Act.put,lA1,lZ1,lS1];refine hK _ _ ?_;clear hK K))
  intro w5 hI hF hx1 hx2
  have q5:=(hF 9).1.2 rfl
  have q6:=(hF 14).2 rfl
  clear hx1 hx2 hF
  simp only [Abs.T_setF,Abs.T_addA,Abs.T_push,Abs.T_start,List.drop_succ_cons,List.drop_zero]
  have HO5:=AA q5
  have HI5:=AA (InV.at [.string H9] q6)
  have hs5:w1.heap.size<=w5.heap.size:=hI.size
  have HB5:=AA (bB HB.out hI)
  have hw1:w.heap.size<=w1.heap.size:=HB.out.size
  clear q5 q6 hI hv_s hu_s hv_i hu_i hv_h hu_h
  go_wp2_with (refine EW rfl _ _ _ rfl 16 Tryz.underlying66 D4 rfl (by decide) w1.heap.size _ _ [.string H9] _ _ rfl rfl HO5.out HI5.out (by simp [Value.oneCell']) (by simp [AC]) hs5 ?_;intro v6 w6 hO6 hlow6 hsz6)
  go_ret
  refine ⟨_,rfl,?_,HB5.out.trans ((hlow6 _ (Below.refl _ _)).mono hw1)⟩
  rw [HR.out]
  exact BR.of (ss:=[EP,nm,AJ t,H9]) hO6
 rw [if_neg o6] at hR
 have k6:(ok== 6)=false:=beq_eq_false_iff_ne.2 o6
 have k6':decide (ok=6)=false:=decide_eq_false o6
 have HR:=AA hR
 have hb:=bA (b0 w) (.cells #[.int .i64 1,.int .i64 ok,.int .i64 mkd,.string mnn,.int .i64 me,.int .i64 mf,.int .i64 ms,.slice A pn ac,.int .i64 qk,.string qn,.int .i64 qa,.int .i64 qb,.int .i64 qw,.int .i64 qN,.string nm,.int .i64 t,.int .u64 bits,.int .i64 n,.slice M mn mc] 48)
 go_enter Tryz.func43,Tryz.ntmps43
 go_wp2_with fail
 go_ret
 exact ⟨_,rfl,by rw [HR.out];exact BR.nil _,hb⟩
end Go.Proofs.YtlnonecibpjcoaaGreatDoor
