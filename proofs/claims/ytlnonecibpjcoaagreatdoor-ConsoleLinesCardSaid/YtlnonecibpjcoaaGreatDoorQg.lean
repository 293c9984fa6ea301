/- The console's la. -/
import Derived.Lib.ParseIntBTie
import Derived.Lib.IndexMore
import Derived.Test.YtlnonecibpjcoaaGreatDoorQc
import Derived.Test.YtlnonecibpjcoaaGreatDoorQa
set_option linter.all false
set_option maxRecDepth 100000
set_option maxHeartbeats 8000000
namespace Go.Proofs.YtlnonecibpjcoaaGreatDoor
open Go.RowKit
theorem X8 {s:ByteArray} {n:Int} (h:AS s=some n):AJ n=s/\AF n:=by
 unfold AS at h
 split at h
 ·rename_i v hv
  split at h
  ·rename_i he
   injection h with h
   subst h
   have:=Lib.parseIntB_bounds hv
   have e:((2 ^ (64-1):Nat):Int)=9223372036854775808:=by decide
   rw [e] at this
   exact ⟨he,by unfold AF;omega⟩
  ·cases h
 ·cases h
theorem M1:∀{l:List ByteArray} {xs:List Int},AL l=some xs->xs.map AJ=l/\∀x ∈ xs,AF x
 | [],xs,h=>by
  simp only [AL,Option.some.injEq] at h
  subst h
  exact ⟨rfl,fun x hx=>by cases hx⟩
 | s::l,xs,h=>by
  simp only [AL] at h
  split at h
  ·rename_i v hv
   split at h
   ·rename_i ys hy
    injection h with h
    subst h
    obtain ⟨i1,i2⟩:=M1 hy
    obtain ⟨n1,n2⟩:=X8 hv
    refine ⟨by rw [List.map_cons,i1,n1],fun x hx=>?_⟩
    rcases List.mem_cons.1 hx with rfl|hx
    ·exact n2
    ·exact i2 x hx
   ·cases h
  ·cases h
theorem X9:∀xs:List Int,xs.length%2=0->(BX xs).flatMap (fun p=>[AJ p.1,AJ p.2])=xs.map AJ
 | [],_=>rfl
 | [_],h=>by simp at h
 | x::y::l,h=>by
  have h':l.length%2=0:=by simp only [List.length_cons] at h;omega
  rw [BX,List.flatMap_cons,X9 l h']
  rfl
theorem YA:∀xs:List Int,(∀x ∈ xs,AF x)->∀p ∈ BX xs,AF p.1/\AF p.2
 | [],_,p,hp=>by cases hp
 | [_],_,p,hp=>by cases hp
 | x::y::l,h,p,hp=>by
  rw [BX] at hp
  rcases List.mem_cons.1 hp with rfl|hp
  ·exact ⟨h x (by simp),h y (by simp)⟩
  ·exact YA l (fun z hz=>h z (by simp [hz])) p hp
theorem sT {b:UInt8} {d:Nat} (h:DT b=some d):C6 d=b:=by
 have key:∀n:Fin 256,∀d:Fin 16,DT (UInt8.ofNat n.val)=some d.val->C6 d.val=UInt8.ofNat n.val:=by decide+kernel
 have h1:=(K4 h).1
 have:=key ⟨b.toNat,b.toNat_lt⟩ ⟨d,h1⟩
 simpa using this (by simpa using h)
theorem YB:∀(l r:List UInt8) (a:Nat),BM (l++r) a=(BM l a).bind (BM r)
 | [],r,a=>rfl
 | b::l,r,a=>by
  simp only [List.cons_append,BM]
  cases DT b with
  | none=>rfl
  | some d=>exact YB l r _
theorem YC:∀(k:Nat) (l:List UInt8) (n:Nat),l.length=k->BM l 0=some n->C7 k n=l/\n<16 ^ k
 | 0,l,n,hl,h=>by
  obtain rfl:=List.eq_nil_of_length_eq_zero hl
  simp only [BM,Option.some.injEq] at h
  subst h
  exact ⟨rfl,by decide⟩
 | k+1,l,n,hl,h=>by
  have hne:l≠[]:=by rintro rfl;simp at hl
  have hd:=List.dropLast_concat_getLast hne
  have hlen:l.dropLast.length=k:=by rw [List.length_dropLast];omega
  rw [<-hd,YB] at h
  cases hm:BM l.dropLast 0 with
  | none=>rw [hm] at h;cases h
  | some m=>
   rw [hm] at h
   simp only [Option.bind_some,BM] at h
   split at h
   ·rename_i d hdd
    injection h with h
    obtain ⟨i1,i2⟩:=YC k l.dropLast m hlen hm
    have hd16:=(K4 hdd).1
    have e1:n/16=m:=by omega
    have e2:n%16=d:=by omega
    rw [C7,e1,e2,i1,sT hdd]
    refine ⟨hd,?_⟩
    rw [Nat.pow_succ]
    omega
   ·cases h
theorem sU {b:ByteArray} {n:Nat} (hb:b.size=16) (h:BM b.data.toList 0=some n):FO n=b/\n<18446744073709551616:=by
 obtain ⟨h1,h2⟩:=YC 16 b.data.toList n (by rw [<-hb];rfl) h
 exact ⟨by unfold FO;rw [h1],by simpa using h2⟩
theorem sV {x:ByteArray} (h:0<CH x):AW (CH x)=x/\CH x<=5:=by
 by_cases e:∃j,1<=j/\j<6/\AW j=x
 ·obtain ⟨j,j1,j2,e⟩:=e
  rw [UT j1 (by omega) e]
  exact ⟨e,by omega⟩
 ·rw [UU (fun j j1 j2 e2=>e ⟨j,j1,j2,e2⟩)] at h
  omega
theorem sW {x:ByteArray} (h:0<D7 x):AW (D7 x)=x/\D7 x<=7:=by
 by_cases e:∃j,1<=j/\j<8/\AW j=x
 ·obtain ⟨j,j1,j2,e⟩:=e
  rw [P6 j1 (by omega) e]
  exact ⟨e,by omega⟩
 ·rw [U4 (fun j j1 j2 e2=>e ⟨j,j1,j2,e2⟩)] at h
  omega
theorem ze:(⟨#[]⟩:ByteArray).size<=1000:=by decide
theorem zb:(0:Int)<=0/\(0:Int)<18446744073709551616:=by decide
theorem z0:AF 0:=by unfold AF;omega
structure Read (c:Cm) (ws:List ByteArray):Prop where
 ok:CmOK c
 words:CF c=ws
 nm:c.nm.size<=1000
 qn:c.qn.size<=1000
 mn:c.mn.size<=1000
 ml:c.masks.length<=300
 pl:c.pts.length<=20
theorem sX {h nm:ByteArray} {r:List ByteArray} {xs:List Int} {c:Cm} (hn:nm.size<=40) (hx:AL r=some xs) (hc:BS h nm xs=some c):Read c (h::nm::r):=by
 obtain ⟨hm,hi⟩:=M1 hx
 subst hm
 clear hx
 unfold BS at hc
 by_cases ha:0<D7 h
 ·rw [if_pos ha] at hc
  obtain ⟨a1,a2⟩:=sW ha
  by_cases h6:D7 h=6
  ·rw [if_pos h6] at hc
   rw [h6] at a1
   match xs,hi,hc with
   | [a],hi,hc=>
    injection hc with hc
    subst hc
    have ia:=hi a (by simp)
    refine ⟨?_,?_,ze,by show nm.size<=1000;omega,ze,Nat.zero_le _,Nat.zero_le _⟩
    ·constructor <;> first|exact z0|exact ia|(intro x hx;cases hx)|exact zb|exact Nat.zero_le _
    ·rw [<-a1];rfl
  ·rw [if_neg h6] at hc
   match xs,hi,hc with
   | [a,b],hi,hc=>
    injection hc with hc
    subst hc
    have ia:=hi a (by simp)
    have ib:=hi b (by simp)
    refine ⟨?_,?_,ze,by show nm.size<=1000;omega,ze,Nat.zero_le _,Nat.zero_le _⟩
    ·constructor <;> first|exact z0|exact ia|exact ib|(intro x hx;cases hx)|exact zb|exact Nat.zero_le _
    ·have e:CF { ok:=5,qk:=(D7 h:Int),qn:=nm,qa:=a,qb:=b }=FN (D7 h:Int) nm a b 0 0:=rfl
     rw [e]
     unfold FN
     rw [if_neg (by omega),if_neg (by omega),if_neg (by omega),Int.toNat_natCast,a1]
     rfl
 ·rw [if_neg ha] at hc
  by_cases h1:h=DO
  ·rw [if_pos h1] at hc
   subst h1
   match xs,hi,hc with
   | [a,b],hi,hc=>
    injection hc with hc
    subst hc
    have ia:=hi a (by simp)
    have ib:=hi b (by simp)
    refine ⟨?_,rfl,ze,ze,by show nm.size<=1000;omega,Nat.zero_le _,Nat.zero_le _⟩
    constructor <;> first|exact z0|exact ia|exact ib|(intro x hx;cases hx)|exact zb|exact Nat.zero_le _
  rw [if_neg h1] at hc
  by_cases h2:h=DI
  ·rw [if_pos h2] at hc
   subst h2
   match xs,hi,hc with
   | [],hi,hc=>
    injection hc with hc
    subst hc
    refine ⟨?_,rfl,ze,ze,by show nm.size<=1000;omega,Nat.zero_le _,Nat.zero_le _⟩
    constructor <;> first|exact z0|(intro x hx;cases hx)|exact zb|exact Nat.zero_le _
  rw [if_neg h2] at hc
  by_cases h3:h=CL
  ·rw [if_pos h3] at hc
   subst h3
   split at hc
   ·rename_i hl
    injection hc with hc
    subst hc
    have hp:=YA xs hi
    have hpl:=NI xs
    refine ⟨?_,?_,ze,ze,by show nm.size<=1000;omega,Nat.zero_le _,by show (BX xs).length<=20;omega⟩
    ·constructor <;> first|exact z0|exact hp|(intro x hx;cases hx)|exact zb|exact Nat.zero_le _|(show (BX xs).length<=1000;omega)
    ·have e:CF { ok:=1,mkd:=3,mn:=nm,pts:=BX xs }=[CL,nm]++(BX xs).flatMap (fun p=>[AJ p.1,AJ p.2]):=rfl
     rw [e,X9 xs hl.2.2]
     rfl
   ·cases hc
  rw [if_neg h3] at hc
  by_cases h4:h=DP
  ·rw [if_pos h4] at hc
   subst h4
   match xs,hi,hc with
   | [a],hi,hc=>
    injection hc with hc
    subst hc
    have ia:=hi a (by simp)
    refine ⟨?_,rfl,ze,ze,by show nm.size<=1000;omega,Nat.zero_le _,Nat.zero_le _⟩
    constructor <;> first|exact z0|exact ia|(intro x hx;cases hx)|exact zb|exact Nat.zero_le _
  rw [if_neg h4] at hc
  cases hc
theorem sY {ws:List ByteArray} {c:Cm} (hc:J3 ws=some c):Read c ws:=by
 match ws,hc with
 | h::l,hc=>
  simp only [J3] at hc
  by_cases h1:h=CV
  ·rw [if_pos h1] at hc
   split at hc
   ·rename_i hl
    injection hc with hc
    subst hc hl h1
    refine ⟨?_,rfl,ze,ze,ze,Nat.zero_le _,Nat.zero_le _⟩
    constructor <;> first|exact z0|(intro x hx;cases hx)|exact zb|exact Nat.zero_le _
   ·cases hc
  rw [if_neg h1] at hc
  by_cases h2:h=CW
  ·rw [if_pos h2] at hc
   split at hc
   ·rename_i hl
    injection hc with hc
    subst hc hl h2
    refine ⟨?_,rfl,ze,ze,ze,Nat.zero_le _,Nat.zero_le _⟩
    constructor <;> first|exact z0|(intro x hx;cases hx)|exact zb|exact Nat.zero_le _
   ·cases hc
  rw [if_neg h2] at hc
  by_cases h3:h=CX
  ·rw [if_pos h3] at hc
   split at hc
   ·rename_i hl
    injection hc with hc
    subst hc hl h3
    refine ⟨?_,rfl,ze,ze,ze,Nat.zero_le _,Nat.zero_le _⟩
    constructor <;> first|exact z0|(intro x hx;cases hx)|exact zb|exact Nat.zero_le _
   ·cases hc
  rw [if_neg h3] at hc
  by_cases h4:h=B2
  ·rw [if_pos h4] at hc
   split at hc
   ·rename_i n hp
    injection hc with hc
    obtain ⟨hm,hi⟩:=M1 hp
    subst hc h4
    rw [<-hm]
    have ia:=hi n (by simp)
    refine ⟨?_,rfl,ze,ze,ze,Nat.zero_le _,Nat.zero_le _⟩
    constructor <;> first|exact z0|exact ia|(intro x hx;cases hx)|exact zb|exact Nat.zero_le _
   ·cases hc
  rw [if_neg h4] at hc
  by_cases h5:h=B3
  ·rw [if_pos h5] at hc
   split at hc
   ·rename_i xs hp
    split at hc
    ·rename_i hl
     injection hc with hc
     obtain ⟨hm,hi⟩:=M1 hp
     subst hc h5
     rw [<-hm]
     refine ⟨?_,rfl,ze,ze,ze,hl,Nat.zero_le _⟩
     constructor <;> first|exact z0|exact hi|(intro x hx;cases hx)|exact zb|exact Nat.zero_le _|(show xs.length<=1000;omega)
    ·cases hc
   ·cases hc
  rw [if_neg h5] at hc
  cases l with
  | nil=>cases hc
  | cons nm r=>
   simp only at hc
   by_cases hn':¬nm.size<=40
   ·rw [if_neg hn'] at hc
    cases hc
   have hn:=Classical.not_not.1 hn'
   rw [if_pos hn] at hc
   by_cases h6:h=EP
   ·rw [if_pos h6] at hc
    subst h6
    rcases r with _|⟨a,_|⟨b,_|⟨d,r⟩⟩⟩
    ·exact absurd hc (by simp [FD])
    ·exact absurd hc (by simp [FD])
    ·simp only [FD] at hc
     cases ht:AS a with
     | none=>rw [ht] at hc;exact absurd hc (by simp)
     | some t=>
      by_cases hbs:b.size=16
      ·rw [if_pos hbs,ht] at hc
       cases hb:BM b.data.toList 0 with
       | none=>rw [hb] at hc;exact absurd hc (by simp)
       | some n=>
        rw [hb] at hc
        injection hc with hc
        subst hc
        obtain ⟨n1,n2⟩:=X8 ht
        obtain ⟨x1,x2⟩:=sU hbs hb
        refine ⟨?_,?_,by show nm.size<=1000;omega,ze,ze,Nat.zero_le _,Nat.zero_le _⟩
        ·constructor <;> first|exact z0|exact n2|(intro x hx;cases hx)|exact ⟨by show (0:Int)<=(n:Int);omega,by show (n:Int)<18446744073709551616;omega⟩|exact Nat.zero_le _
        ·have e:CF { ok:=6,nm:=nm,t:=t,bits:=(n:Int) }=[EP,nm,AJ t,FO (n:Int).toNat]:=rfl
         rw [e,Int.toNat_natCast,n1,x1]
      ·rw [if_neg hbs,ht] at hc
       exact absurd hc (by simp)
    ·exact absurd hc (by simp [FD])
   rw [if_neg h6] at hc
   by_cases h7:h=E7
   ·rw [if_pos h7] at hc
    subst h7
    rcases r with _|⟨x,_|⟨a,_|⟨b,_|⟨d,_|⟨f,r⟩⟩⟩⟩⟩
    ·exact absurd hc (by simp [C9])
    ·exact absurd hc (by simp [C9])
    ·exact absurd hc (by simp [C9])
    ·exact absurd hc (by simp [C9])
    ·simp only [C9] at hc
     cases hp:AL [a,b,d] with
     | none=>rw [hp] at hc;exact absurd hc (by simp)
     | some xs=>
      rw [hp] at hc
      have hl3:=G7 hp
      rcases xs with _|⟨u,_|⟨v,_|⟨n,_|⟨q,xs⟩⟩⟩⟩
      ·simp at hl3
      ·simp at hl3
      ·simp at hl3
      ·simp only at hc
       by_cases hk:0<CH x
       ·rw [if_pos hk] at hc
        injection hc with hc
        subst hc
        obtain ⟨hm,hi⟩:=M1 hp
        obtain ⟨k1,k2⟩:=sV hk
        have iu:=hi u (by simp)
        have iv:=hi v (by simp)
        have il:=hi n (by simp)
        refine ⟨?_,?_,ze,by show nm.size<=1000;omega,ze,Nat.zero_le _,Nat.zero_le _⟩
        ·constructor <;> first|exact z0|exact iu|exact iv|exact il|(intro x hx;cases hx)|exact zb|exact Nat.zero_le _
        ·have e:CF { ok:=5,qk:=8,qn:=nm,qa:=u,qb:=v,qw:=(CH x:Int),qN:=n }=FN 8 nm u v (CH x:Int) n:=rfl
         rw [e]
         unfold FN
         rw [if_neg (by omega),if_neg (by omega),if_pos rfl,if_neg (by omega),Int.toNat_natCast,k1]
         simp only [List.map_cons,List.map_nil] at hm
         injection hm with m1 m2
         injection m2 with m2 m3
         injection m3 with m3 m4
         rw [m1,m2,m3]
         rfl
       ·rw [if_neg hk] at hc
        cases hc
      ·simp at hl3
    ·exact absurd hc (by simp [C9])
   rw [if_neg h7] at hc
   cases hx:AL r with
   | none=>rw [hx] at hc;exact absurd hc (by simp)
   | some xs=>
    rw [hx] at hc
    exact sX hn hx hc
theorem YD:∀(l acc:List UInt8),spl acc l≠[]
 | [],acc=>by simp [spl]
 | b::r,acc=>by
  unfold spl
  split
  ·simp
  ·exact YD r _
theorem SM:∀(l acc:List UInt8),Lib.join (spl acc l) [32]=acc++l
 | [],acc=>by simp [spl,Lib.join,List.intercalate]
 | b::r,acc=>by
  unfold spl
  split
  ·rename_i hb
   have ih:=SM r []
   cases hs:spl [] r with
   | nil=>exact absurd hs (YD r [])
   | cons p q=>
    rw [hs] at ih
    have e:Lib.join (acc::p::q) [32]=acc++[32]++Lib.join (p::q) [32]:=by simp [Lib.join,List.intercalate,List.intersperse]
    rw [e,ih,hb]
    simp
  ·rw [SM r (acc++[b])]
   simp
theorem SN:∀(l r acc:List UInt8) (p:List UInt8),p ∈ spl [] r->p ∈ spl acc (l++32::r)
 | [],r,acc,p,h=>by
  rw [List.nil_append]
  unfold spl
  rw [if_pos rfl]
  exact List.mem_cons_of_mem _ h
 | b::l,r,acc,p,h=>by
  rw [List.cons_append]
  unfold spl
  split
  ·exact List.mem_cons_of_mem _ (SN l r [] p h)
  ·exact SN l r _ p h
theorem YE {l sub:List UInt8} (h:0<=Lib.index l sub):∃pre post,l=pre++sub++post:=by
 rcases Lib.index_spec l sub with ⟨h1,_⟩|⟨i,h1,h2,h3,_⟩
 ·omega
 ·unfold Lib.occAt at h3
  obtain ⟨post,e⟩:=List.isPrefixOf_iff_prefix.1 h3
  exact ⟨l.take i,post,by rw [List.append_assoc,e,List.take_append_drop]⟩
theorem sZ {s:ByteArray} {c:Cm} (h:AZ s=some c):CQ BP (CF c)=s/\Read c (CF c)/\Lib.contains s.data.toList [10]=false/\Lib.contains s.data.toList [32,32]=false/\Lib.hasPrefix s.data.toList [32]=false/\Lib.hasSuffix s.data.toList [32]=false:=by
 rw [<-GN] at h
 unfold LG at h
 split at h
 ·rename_i ws hw
  have hr:=sY h
  rw [LF] at hw
  split at hw
  ·rename_i hp
   obtain ⟨p1,p2⟩:=hp
   injection hw with hw
   rw [List.nil_append] at hw
   have hE:∀pre post,s.data.toList=pre++32::post->[] ∈ spl [] post->False:=fun pre post e hin=>by
    refine p2 [] ?_ rfl
    show [] ∈ spl [] s.data.toList
    rw [e]
    exact SN pre post [] [] hin
   refine ⟨?_,by rw [hr.words];exact hr,?_,?_,?_,?_⟩
   ·rw [hr.words,<-hw]
    unfold CQ
    rw [List.map_map]
    have e:(spl (⟨#[]⟩:ByteArray).data.toList s.data.toList).map ((fun x:ByteArray=>x.data.toList)∘toB)=spl [] s.data.toList:=by
     have:((fun x:ByteArray=>x.data.toList)∘toB)=id:=by funext x;simp [toB]
     rw [this,List.map_id]
    rw [e,show BP.data.toList=[32] from rfl,SM,List.nil_append]
   ·unfold Lib.contains
    rw [decide_eq_false_iff_not]
    intro h0
    obtain ⟨pre,post,e⟩:=YE h0
    have hb:=List.all_eq_true.1 p1 10 (by rw [e];simp)
    revert hb
    decide
   ·unfold Lib.contains
    rw [decide_eq_false_iff_not]
    intro h0
    obtain ⟨pre,post,e⟩:=YE h0
    exact hE pre (32::post) (by rw [e];simp) (by rw [spl];simp)
   ·rw [Bool.eq_false_iff]
    intro h0
    obtain ⟨post,e⟩:=List.isPrefixOf_iff_prefix.1 h0
    refine p2 [] ?_ rfl
    show [] ∈ spl [] s.data.toList
    rw [<-e]
    show [] ∈ spl [] (32::post)
    rw [spl];simp
   ·rw [Bool.eq_false_iff]
    intro h0
    obtain ⟨pre,e⟩:=List.isSuffixOf_iff_suffix.1 h0
    exact hE pre [] e.symm (by simp [spl])
  ·cases hw
 ·cases h
attribute [local go_sem] Oper.semAt_some
theorem M3 (x:ByteArray) (l:List ByteArray):CR (x::l)=x.size+CR l:=rfl
theorem YF:CR []=0:=rfl
theorem SO:∀a b:List ByteArray,CR (a++b)=CR a+CR b
 | [],b=>by simp [CR]
 | x::a,b=>by rw [List.cons_append,M3,M3,SO a b];omega
theorem JQ (n:Nat):(AW n).size<=7:=by
 rcases Nat.lt_or_ge n 9 with h|h
 ·obtain rfl|rfl|rfl|rfl|rfl|rfl|rfl|rfl|rfl:n=0∨n=1∨n=2∨n=3∨n=4∨n=5∨n=6∨n=7∨n=8:=by omega
  all_goals decide
 ·unfold AW
  rw [List.getD_eq_getElem?_getD,List.getElem?_eq_none (by simpa [UK] using h)]
  decide
theorem YG:∀l:List (Int×Int),(∀p ∈ l,AF p.1/\AF p.2)->CR (l.flatMap fun p=>[AJ p.1,AJ p.2])<=40*l.length/\(l.flatMap fun p=>[AJ p.1,AJ p.2]).length=2*l.length
 | [],_=>⟨by simp [CR],rfl⟩
 | p::l,h=>by
  obtain ⟨i1,i2⟩:=YG l fun q hq=>h q (List.mem_cons_of_mem _ hq)
  obtain ⟨h1,h2⟩:=h p List.mem_cons_self
  have e1:=EI _ h1
  have e2:=EI _ h2
  rw [List.flatMap_cons,SO,M3,M3,YF,List.length_append,i2]
  simp only [List.length_cons,List.length_nil]
  omega
def D1 (c:Cm):Prop:=c.nm.size<=1000/\c.qn.size<=1000/\c.mn.size<=1000
def szW (l:List ByteArray):Nat:=CR l+l.length
theorem tC {p:Prop} [Decidable p] {a b:List ByteArray} {n:Nat} (h1:szW a<=n) (h2:szW b<=n):szW (if p then a else b)<=n:=by
 by_cases h:p
 ·rw [if_pos h];exact h1
 ·rw [if_neg h];exact h2
theorem YH {c:Cm} (hc:CmOK c) (hs:D1 c) (hm:c.masks.length<=310) (hp:c.pts.length<=40):CR (CF c)+(CF c).length<=9000:=by
 obtain ⟨s1,s2,s3⟩:=hs
 have w1:B2.size=5:=by decide
 have w2:B3.size=5:=by decide
 have w3:CV.size=4:=by decide
 have w4:CW.size=5:=by decide
 have w5:CX.size=7:=by decide
 have w6:EP.size=4:=by decide
 have w7:DO.size=6:=by decide
 have w8:DI.size=4:=by decide
 have w9:CL.size=6:=by decide
 have wa:DP.size=6:=by decide
 have i1:=EI _ hc.n
 have i2:=EI _ hc.me
 have i3:=EI _ hc.mf
 have i4:=EI _ hc.ms
 have i5:=EI _ hc.qa
 have i6:=EI _ hc.qb
 have i7:=EI _ hc.qN
 have i8:=EI _ hc.t
 have i9:=gD c.masks hc.masks
 obtain ⟨p1,p2⟩:=YG c.pts hc.pts
 have hh:=X6 c.bits.toNat
 have r1:=JQ 6
 have r2:=JQ 8
 have r3:=JQ c.qw.toNat
 have r4:=JQ c.qk.toNat
 show szW (CF c)<=9000
 unfold CF JP FN
 repeat' (with_reducible refine tC ?_ ?_)
 all_goals
  unfold szW
  try simp only [SO,M3,YF,List.length_append,List.length_cons,List.length_nil,List.length_map]
  omega
theorem YI {c:Cm} (hc:CmOK c) (hs:D1 c) (hm:c.masks.length<=310) (hp:c.pts.length<=40):(CQ BP (CF c)).size<=10000:=by
 have h1:=YH hc hs hm hp
 have h2:=gE BP (CF c)
 have h3:BP.size=1:=by decide
 rw [h3] at h2
 omega
def IL (c:Cm):Option ByteArray->Prop
 | some s=>s=CQ BP (CF c)/\c.masks.length<=300/\c.pts.length<=20/\AZ s=some c
 | none=>¬(c.masks.length<=300/\c.pts.length<=20/\AZ (CQ BP (CF c))=some c)
def YJ:Option ByteArray->Ending->Prop
 | some s,e=>e=.returned (.tuple #[.string s,.int .i64 0])
 | none,e=>e=.returned (.tuple #[.string ⟨#[]⟩,.int .i64 410])
theorem tD (c:Cm) (hc:CmOK c) (hs:D1 c) (A:Option Addr) (ac:Nat) (M:Option Addr) (mc:Nat) (w:World) (hL:Laid w) (hD:Deb w) (hA:RK 99 2 w A c.pts.length ac (AU c.pts)) (hM:RK 3 1 w M c.masks.length mc (AH c.masks)) :
  Calls Tryz.prog 16 #[.agg (c.cs A ac M mc)] w fun e w'=>∃r,YJ r e/\IL c r/\Below w.heap.size w w':=by
 obtain ⟨X,hX⟩:∃X,X=c.cs A ac M mc:=⟨_,rfl⟩
 have hXs:X.size=19:=by rw [hX];rfl
 have hX1:X.all (·.oneCell')=true:=by rw [hX];exact BB _ _ _ _ _ _
 have x18:X[18]?=some (.slice M c.masks.length mc):=by rw [hX];rfl
 have x7:X[7]?=some (.slice A c.pts.length ac):=by rw [hX];rfl
 have fb:=na w X 48
 have hb1:=bA (b0 w) (.cells X 48)
 obtain ⟨z1,z2,z3⟩:=AB fb
 have z18:=(z1 18).trans x18
 have z7:=(z1 7).trans x7
 rw [<-hX]
 obtain ⟨mn,hmn⟩:∃mn,mn=c.masks.length:=⟨_,rfl⟩
 obtain ⟨pn,hpn⟩:∃pn,pn=c.pts.length:=⟨_,rfl⟩
 rw [<-hmn] at z18
 rw [<-hpn] at z7
 have HB1:=AA hb1
 have HMN:=AA hmn
 have HPN:=AA hpn
 have HX:=AA hX
 have FB:=AA fb
 clear hX x18 x7 z1 z2 z3 hb1 hmn hpn fb
 by_cases h300:mn<=300
 ·have d1:decide ((300:Int)<(mn:Int))=false:=decide_eq_false (by omega)
  by_cases h20:pn<=20
  ·have d2:decide ((20:Int)<(pn:Int))=false:=decide_eq_false (by omega)
   obtain ⟨S,hS⟩:∃S,S=CQ BP (CF c):=⟨_,rfl⟩
   have hSz:S.size<=10000:=by rw [hS];exact YI hc hs (by have:=HMN.out;omega) (by have:=HPN.out;omega)
   have hws:=YH hc hs (by have:=HMN.out;omega) (by have:=HPN.out;omega)
   have HS:=AA hS
   have HL:=AA (fun W (hb:Below w.heap.size w W)=>hL.below hb)
   have cW:=sS c hc A ac M mc (w.alloc (.cells X 48)) (hL.below HB1.out) (hD.below HB1.out) (hA.inK.inV.below HB1.out) (hM.inK.inV.below HB1.out)
   have HA:=AA hA
   have HM:=AA hM
   rw [<-HX.out] at cW
   have HWS:=AA hws
   clear hS hws hL hD hA hM hc hs
   go_enter Tryz.func16,Tryz.ntmps16
   have fb:=FB.out
   go_wp2_with (refine DU rfl _ _ rfl w.heap.size 48 X rfl fb _ rfl Tryz.underlying48 (by rw [AE,hXs]) ?_;simp only [Act.put,lA1,lZ1,lS1])
   refine cW.mono ?_
   rintro e w2 ⟨v,rfl,hr2,hb2⟩
   obtain ⟨A2,c2,rfl,hk2⟩:=hr2
   have c22:=Y9 BP A2 c2 (CF c) w2 hk2 (by have:=HWS.out;omega) (by have:=HWS.out;omega) (by decide)
   rw [<-HS.out] at c22
   have HB2:=AA (bB HB1.out hb2)
   have f2:=kp hb2 FB.out
   clear hb2 hk2 cW z18 z7 fb
   go_wp2_with fail
   refine c22.mono ?_
   rintro e w3 ⟨rfl,hb3⟩
   have HB3:=AA (bB HB2.out hb3)
   have f3:=kp hb3 f2
   clear hb3 c22 f2
   go_wp2_with fail
   refine (NH S hSz w3 (HL.out _ HB3.out)).mono ?_
   rintro e w4 hp4
   cases hpl:AZ S with
   | none=>
    simp only [hpl] at hp4
    obtain ⟨rfl,hb4⟩:=hp4
    have HN:Hid (IL c none):=AA (fun h=>by have h2:=h.2.2;rw [<-HS.out,hpl] at h2;cases h2)
    have HB4:=AA (bB HB3.out hb4)
    have hzc:=BF
    have hz1:=C2
    clear hb4 hpl
    go_wp2_with (refine AG rfl _ _ _ rfl w4.heap.size 48 _ AD rfl rfl (na w4 AD 48) (by rw [AE,hzc]) rfl hz1 ?_;simp only [Act.put];generalize hT5:setRow _ _ _=w5;obtain ⟨hx5,f5⟩:=AK (b0 _) (na w4 AD 48) hT5;have HB5:=AA (bB HB4.out (bX (bA (b0 w4) (.cells AD 48)) hx5 (Nat.le_refl _)));clear hT5 hx5)
    go_ret2
    exact ⟨none,rfl,HN.out,HB5.out⟩
   | some c'=>
    simp only [hpl] at hp4
    obtain ⟨v,rfl,hk',hb4⟩:=hp4
    obtain ⟨A',ac',M',mc',rfl,hA',hM'⟩:=hk'.k
    obtain ⟨Y,hY⟩:∃Y,Y=c'.cs A' ac' M' mc':=⟨_,rfl⟩
    have hYs:Y.size=19:=by rw [hY];rfl
    have hY1:Y.all (·.oneCell')=true:=by rw [hY];exact BB _ _ _ _ _ _
    rw [<-hY]
    have HY:=AA hY
    have HB4:=AA (bB HB3.out hb4)
    have f4:=kp hb4 f3
    have HP:=AA hpl
    have HA':=AA hA'
    have HM':=AA hM'
    clear hb4 hY hk' hA' hM' hpl f3
    go_wp2_with (first
     | (refine AG rfl _ _ _ rfl w4.heap.size 48 _ Y rfl rfl (na w4 AD 48) (by rw [AE,hYs]) (by rw [hYs];rfl) hY1 ?_;simp only [Act.put];generalize hT5:setRow _ _ _=w5;obtain ⟨hx5,g5⟩:=AK (b0 _) (na w4 AD 48) hT5;have HB45:=AA (bX (bA (b0 w4) (.cells AD 48)) hx5 (Nat.le_refl _));have f5:=kp HB45.out f4;clear hT5 hx5)
     | (refine DL rfl _ _ rfl w4.heap.size 48 Y rfl g5 _ rfl Tryz.underlying48 (by rw [AE,hYs]) ?_;simp only [Act.put,lA1,lZ1,lS1])
     | (refine DL rfl _ _ rfl w.heap.size 48 X rfl f5 _ rfl Tryz.underlying48 (by rw [AE,hXs]) ?_;simp only [Act.put,lA1,lZ1,lS1]))
    have HB5:=AA (bB HB4.out HB45.out)
    have c12:=XU c' c A' ac' M' mc' A ac M mc w5 (HA'.out.below HB45.out) (HM'.out.below HB45.out) (HA.out.below HB5.out) (HM.out.below HB5.out)
    rw [<-HY.out,<-HX.out] at c12
    refine c12.mono ?_
    rintro e w6 ⟨b,rfl,hbe,hb6⟩
    have HB6:=AA (bB HB5.out hb6)
    have HBE:=AA hbe
    clear hbe hb6 c12
    cases b
    ·have HN:Hid (IL c none):=AA (fun h=>by
      have h2:=h.2.2
      rw [<-HS.out,HP.out] at h2
      have:=HBE.out.2 (Option.some.inj h2)
      cases this)
     go_wp2_with fail
     go_ret2
     exact ⟨none,rfl,HN.out,HB6.out⟩
    ·have HN:Hid (IL c (some S)):=AA ⟨HS.out,by have:=HMN.out;omega,by have:=HPN.out;omega,by rw [HP.out,HBE.out.1 rfl]⟩
     go_wp2_with fail
     go_ret2
     exact ⟨some S,rfl,HN.out,HB6.out⟩
  ·have d2:decide ((20:Int)<(pn:Int))=true:=decide_eq_true (by omega)
   have HN:Hid (IL c none):=AA (fun h=>by have:=h.2.1;have:=HPN.out;omega)
   clear hc hs hL hD hA hM
   go_enter Tryz.func16,Tryz.ntmps16
   go_wp2_with fail
   go_ret2
   exact ⟨none,rfl,HN.out,HB1.out⟩
 ·have d1:decide ((300:Int)<(mn:Int))=true:=decide_eq_true (by omega)
  have HN:Hid (IL c none):=AA (fun h=>by have:=h.1;have:=HMN.out;omega)
  clear hc hs hL hD hA hM
  go_enter Tryz.func16,Tryz.ntmps16
  go_wp2_with fail
  go_ret2
  exact ⟨none,rfl,HN.out,HB1.out⟩
def D2 (l:List (Int×Int)):List Int:=l.flatMap fun p=>[p.1,p.2]
def M5 (k:Int) (nm:ByteArray) (e f s:Int) (pts:List (Int×Int)):ByteArray :=
 if k=1 then ⟨#[99,114,101,97,116,101,32]⟩++nm++AQ [e,s] else if k=2 then ⟨#[100,114,111,112,32]⟩++nm else if k=3 then ⟨#[97,112,112,101,110,100,32]⟩++nm++AQ (D2 pts)
 else if k=4 then ⟨#[114,101,116,97,105,110,32]⟩++nm++AQ [f] else ⟨#[]⟩
def EV (k:Int) (nm:ByteArray) (a b wh N:Int):ByteArray :=
 if k<1∨8<k then ⟨#[]⟩ else if k=6 then AW 6++BP++nm++AQ [a] else if k=8 then (if wh<1∨5<wh then AW 8++BP++nm else AW 8++BP++nm++BP++AW wh.toNat++AQ [a,b,N])
 else AW k.toNat++BP++nm++AQ [a,b]
def AP (c:Cm):ByteArray :=
 if c.kind=2 then B2++AQ [c.n] else if c.kind=3 then B3++AQ c.masks else if c.kind≠1 then ⟨#[]⟩
 else if c.ok=1 then M5 c.mkd c.mn c.me c.mf c.ms c.pts else if c.ok=2 then CV else if c.ok=3 then CW else if c.ok=4 then CX
 else if c.ok=5 then EV c.qk c.qn c.qa c.qb c.qw c.qN else if c.ok=6 then ⟨#[114,101,97,100,32]⟩++c.nm++AQ [c.t]++BP++FO c.bits.toNat else ⟨#[]⟩
theorem tE:CQ BP []=⟨#[]⟩:=rfl
theorem SP (h:ByteArray):CQ BP [h]=h:=by
 rw [J9]
 simp only [tailB,J7]
theorem YK (h:ByteArray) (l:List Int):CQ BP (h::l.map AJ)=h++AQ l:=by rw [J9,U3]
theorem M6 (h nm:ByteArray) (l:List Int):CQ BP (h::nm::l.map AJ)=h++BP++nm++AQ l:=by
 rw [J9]
 simp only [tailB,U3,ByteArray.append_assoc]
theorem tF (h nm:ByteArray):CQ BP [h,nm]=h++BP++nm:=by
 rw [J9]
 simp only [tailB,J7,ByteArray.append_assoc]
theorem YL:∀l:List (Int×Int),l.flatMap (fun p=>[AJ p.1,AJ p.2])=(D2 l).map AJ
 | []=>rfl
 | p::l=>by
  have ih:=YL l
  unfold D2 at *
  simp only [List.flatMap_cons,List.map_append,List.map_cons,List.map_nil,ih]
theorem tG (k:Int) (nm:ByteArray) (e f s:Int) (pts:List (Int×Int)):M5 k nm e f s pts=CQ BP (JP k nm e f s pts):=by
 unfold M5 JP
 split
 ·exact (M6 DO nm [e,s]).symm
 ·split
  ·exact (tF DI nm).symm
  ·split
   ·rw [YL]
    exact (M6 CL nm (D2 pts)).symm
   ·split
    ·exact (M6 DP nm [f]).symm
    ·rfl
theorem tH (k:Int) (nm:ByteArray) (a b wh N:Int):EV k nm a b wh N=CQ BP (FN k nm a b wh N)∨(FN k nm a b wh N=[]/\EV k nm a b wh N=AW 8++BP++nm):=by
 unfold EV FN
 split
 ·exact .inl rfl
 ·split
  ·exact .inl (M6 (AW 6) nm [a]).symm
  ·split
   ·split
    ·exact .inr ⟨rfl,rfl⟩
    ·refine .inl ?_
     rw [J9]
     simp only [tailB,J7,AQ,ByteArray.append_assoc]
   ·exact .inl (M6 (AW k.toNat) nm [a,b]).symm
theorem YM (c:Cm):AP c=CQ BP (CF c)∨(CF c=[]/\AP c=AW 8++BP++c.qn):=by
 unfold AP CF
 split
 ·exact .inl (YK B2 [c.n]).symm
 ·split
  ·exact .inl (YK B3 c.masks).symm
  ·split
   ·exact .inl rfl
   ·split
    ·exact .inl (tG _ _ _ _ _ _)
    ·split
     ·exact .inl (SP _).symm
     ·split
      ·exact .inl (SP _).symm
      ·split
       ·exact .inl (SP _).symm
       ·split
        ·exact tH _ _ _ _ _ _
        ·split
         ·refine .inl ?_
          rw [J9]
          simp only [tailB,J7,AQ]
          simp only [<-ByteArray.append_assoc]
          rfl
         ·exact .inl rfl
theorem JR {c:Cm} (hc:CmOK c) (hs:D1 c) (hm:c.masks.length<=310) (hp:c.pts.length<=40):(AP c).size<=10000:=by
 rcases YM c with h|⟨-,h⟩
 ·rw [h];exact YI hc hs hm hp
 ·have:=hs.2.1
  have h8:=JQ 8
  have hb:BP.size=1:=by decide
  rw [h,ByteArray.size_append,ByteArray.size_append]
  omega
def BV (c:Cm):Option ByteArray->Prop
 | some s=>s=AP c/\AZ s=some c
 | none=>AZ (AP c)≠some c
theorem tI:AZ ⟨#[]⟩=none:=by rw [<-GN];rfl
theorem YN {c:Cm} {r r':Option ByteArray} (h:IL c r) (h':BV c r'):r=r':=by
 have key:AZ (AP c)=some c->CQ BP (CF c)=AP c/\c.masks.length<=300/\c.pts.length<=20:=fun h4=>by
  obtain ⟨h1,h2,-⟩:=sZ h4
  exact ⟨h1,h2.ml,h2.pl⟩
 cases r with
 | some s=>
  obtain ⟨h1,-,-,h4⟩:=h
  rcases YM c with e|⟨e,-⟩
  ·cases r' with
   | some s'=>rw [h'.1,e,h1]
   | none=>exact absurd (by rw [e,<-h1];exact h4) h'
  ·rw [h1,e,tE,tI] at h4
   cases h4
 | none=>
  cases r' with
  | some s'=>
   obtain ⟨h1,h4⟩:=h'
   rw [h1] at h4
   obtain ⟨k1,k2,k3⟩:=key h4
   exact absurd ⟨k2,k3,by rw [k1];exact h4⟩ h
  | none=>rfl
theorem YO:∀l:List (Int×Int),(D2 l).length=2*l.length
 | []=>rfl
 | p::l=>by
  have ih:=YO l
  unfold D2 at *
  simp only [List.flatMap_cons,List.length_append,List.length_cons,List.length_nil,ih]
  omega
theorem tJ {l:List (Int×Int)} {k:Nat} (hk:k<l.length):AQ (D2 (l.take (k+1)))=AQ (D2 (l.take k))++AQ [l[k].1,l[k].2]:=by
 rw [List.take_succ_eq_append_getElem hk]
 unfold D2
 simp only [List.flatMap_append,List.flatMap_cons,List.flatMap_nil,List.append_nil,P5]
theorem tK {l:List (Int×Int)} (h:∀p ∈ l,AF p.1/\AF p.2):∀x ∈ D2 l,AF x:=by
 intro x hx
 unfold D2 at hx
 obtain ⟨p,hp,hx⟩:=List.mem_flatMap.1 hx
 have:=h p hp
 simp only [List.mem_cons,List.not_mem_nil,or_false] at hx
 rcases hx with rfl|rfl
 ·exact this.1
 ·exact this.2
end Go.Proofs.YtlnonecibpjcoaaGreatDoor
