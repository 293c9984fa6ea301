/- The console at t. -/
import Derived.Test.YtlnonecibpjcoaaGreatDoorRe
import Derived.Lib.ItoaNum
import Derived.Lib.ParseIntB
import Derived.Test.YtlnonecibpjcoaaGreatDoorRc
import Derived.Lib.IndexBytes
import Derived.StillTail
set_option linter.all false
set_option maxRecDepth 100000
set_option maxHeartbeats 8000000
namespace Go.Proofs.YtlnonecibpjcoaaGreatDoor
open Go.RowKit
def BX:List Int->List (Int×Int)
 | x::y::l=>(x,y)::BX l
 | _=>[]
def D7 (h:ByteArray):Nat:=if h=CG then 1 else if h=CK then 2 else if h=CU then 3 else if h=C1 then 4 else if h=C8 then 5 else if h=wAt then 6 else if h=EN then 7 else 0
def CH (h:ByteArray):Nat:=if h=CG then 1 else if h=CK then 2 else if h=CU then 3 else if h=C1 then 4 else if h=C8 then 5 else 0
def BS (h nm:ByteArray) (xs:List Int):Option Cm :=
 if 0<D7 h then
  if D7 h=6 then (match xs with|[a]=>some { ok:=5,qk:=6,qn:=nm,qa:=a }|_=>none)
  else (match xs with|[a,b]=>some { ok:=5,qk:=(D7 h:Int),qn:=nm,qa:=a,qb:=b }|_=>none)
 else if h=DO then (match xs with|[a,b]=>some { ok:=1,mkd:=1,mn:=nm,me:=a,ms:=b }|_=>none)
 else if h=DI then (match xs with|[]=>some { ok:=1,mkd:=2,mn:=nm }|_=>none)
 else if h=CL then (if 2<=xs.length/\xs.length<=40/\xs.length%2=0 then some { ok:=1,mkd:=3,mn:=nm,pts:=BX xs } else none)
 else if h=DP then (match xs with|[a]=>some { ok:=1,mkd:=4,mn:=nm,mf:=a }|_=>none)
 else none
def FD (nm:ByteArray):List ByteArray->Option Cm
 | [a,b]=>match AS a,(if b.size=16 then BM b.data.toList 0 else none) with
  | some t,some n=>some { ok:=6,nm:=nm,t:=t,bits:=(n:Int) }
  | _,_=>none
 | _=>none
def C9 (nm:ByteArray):List ByteArray->Option Cm
 | [x,a,b,c]=>match AL [a,b,c] with
  | some [u,v,n]=>if 0<CH x then some { ok:=5,qk:=8,qn:=nm,qa:=u,qb:=v,qw:=(CH x:Int),qN:=n } else none
  | _=>none
 | _=>none
def J3:List ByteArray->Option Cm
 | []=>none
 | h::l=>
  if h=CV then (if l=[] then some { ok:=2 } else none)
  else if h=CW then (if l=[] then some { ok:=3 } else none)
  else if h=CX then (if l=[] then some { ok:=4 } else none)
  else if h=B2 then (match AL l with|some [n]=>some { kind:=2,n:=n }|_=>none)
  else if h=B3 then (match AL l with|some xs=>if xs.length<=300 then some { kind:=3,masks:=xs } else none|none=>none)
  else match l with
   | []=>none
   | nm::r=>if nm.size<=40 then
     (if h=EP then FD nm r else if h=E7 then C9 nm r else match AL r with|some xs=>BS h nm xs|none=>none)
    else none
theorem G7:∀{l:List ByteArray} {xs:List Int},AL l=some xs->xs.length=l.length
 | [],xs,h=>by simp only [AL,Option.some.injEq] at h;subst h;rfl
 | s::l,xs,h=>by
  simp only [AL] at h
  split at h
  ·split at h
   ·rename_i ys hy
    injection h with h
    subst h
    simp [G7 hy]
   ·cases h
  ·cases h
theorem T9:∀(l:List ByteArray),B7 l=if l.length%2=0 then (AL l).map BX else none
 | []=>rfl
 | [_]=>rfl
 | s::t::l=>by
  have ih:=T9 l
  have hm:(s::t::l).length%2=l.length%2:=by simp only [List.length_cons];omega
  rw [hm]
  simp only [B7,AL]
  cases AS s with
  | none=>simp
  | some x=>
   cases AS t with
   | none=>simp
   | some y=>
    rw [ih]
    by_cases hl:l.length%2=0
    ·rw [if_pos hl,if_pos hl]
     cases AL l with
     | none=>rfl
     | some ys=>rfl
    ·rw [if_neg hl,if_neg hl]
theorem NI:∀(xs:List Int),(BX xs).length=xs.length/2
 | []=>rfl
 | [_]=>by simp [BX]
 | _::_::l=>by simp only [BX,List.length_cons,NI l];omega
theorem eF (l:List ByteArray):(match JZ l with|none=>none|some (c,l')=>if l'=[] then some c else none)=(match l with|[]=>none|nm::r=>if nm.size<=40 then (match AL r with|some xs=>(match xs with|[]=>some ({ ok:=1,mkd:=2,mn:=nm }:Cm)|_=>none)|none=>none) else none):=by
 cases l with
 | nil=>rfl
 | cons nm r=>
  simp only [JZ,BK]
  by_cases hn:nm.size<=40
  ·rw [if_pos hn,if_pos hn]
   simp only
   cases r with
   | nil=>rfl
   | cons s r=>
    rw [if_neg (by simp)]
    cases hp:AL (s::r) with
    | none=>first|rfl|simp
    | some xs=>
     have:=G7 hp
     cases xs with
     | nil=>simp at this
     | cons=>rfl
  ·rw [if_neg hn,if_neg hn]
theorem UA (f:ByteArray->Int->Int->Cm) (l:List ByteArray) :
  (match (match BK l with|none=>none|some (s,l1)=>match AM l1 with|none=>none|some (x,l2)=>match AM l2 with|none=>none|some (y,l3)=>some (f s x y,l3)) with|none=>none|some (c,l')=>if l'=[] then some c else none) =
  (match l with|[]=>none|nm::r=>if nm.size<=40 then (match AL r with|some xs=>(match xs with|[a,b]=>some (f nm a b)|_=>none)|none=>none) else none):=by
 cases l with
 | nil=>rfl
 | cons nm r=>
  simp only [BK]
  by_cases hn:nm.size<=40
  ·rw [if_pos hn,if_pos hn]
   simp only
   match r with
   | []=>rfl
   | [a]=>cases ha:AS a <;> simp [AM,AL,ha]
   | [a,b]=>cases ha:AS a <;> cases hb:AS b <;> simp [AM,AL,ha,hb]
   | a::b::c::r=>
    have e1:(match AL (a::b::c::r) with|some xs=>(match xs with|[a,b]=>some (f nm a b)|_=>none)|none=>none)=none:=by
     cases hp:AL (a::b::c::r) with
     | none=>rfl
     | some xs=>
      have:=G7 hp
      match xs,this with
      | _::_::_::_,_=>rfl
    rw [e1]
    cases ha:AS a <;> cases hb:AS b <;> simp [AM,ha,hb]
  ·rw [if_neg hn,if_neg hn]
theorem UB (f:ByteArray->Int->Cm) (l:List ByteArray) :
  (match (match BK l with|none=>none|some (s,l1)=>match AM l1 with|none=>none|some (x,l2)=>some (f s x,l2)) with|none=>none|some (c,l')=>if l'=[] then some c else none) =
  (match l with|[]=>none|nm::r=>if nm.size<=40 then (match AL r with|some xs=>(match xs with|[a]=>some (f nm a)|_=>none)|none=>none) else none):=by
 cases l with
 | nil=>rfl
 | cons nm r=>
  simp only [BK]
  by_cases hn:nm.size<=40
  ·rw [if_pos hn,if_pos hn]
   simp only
   match r with
   | []=>rfl
   | [a]=>
    simp only [AM,AL]
    cases AS a <;> first|rfl|simp
   | a::b::r=>
    simp only [AM]
    cases hp:AL (a::b::r) with
    | none=>cases AS a <;> first|rfl|simp
    | some xs=>
     have:=G7 hp
     match xs,this with
     | _::_::_,_=>cases AS a <;> first|rfl|simp
  ·rw [if_neg hn,if_neg hn]
theorem eG (l:List ByteArray):(match E6 l with|none=>none|some (c,l')=>if l'=[] then some c else none)=(match l with|[]=>none|nm::r=>if nm.size<=40 then (match AL r with|some xs=>(if 2<=xs.length/\xs.length<=40/\xs.length%2=0 then some ({ ok:=1,mkd:=3,mn:=nm,pts:=BX xs }:Cm) else none)|none=>none) else none):=by
 cases l with
 | nil=>rfl
 | cons nm r=>
  simp only [E6,BK]
  by_cases hn:nm.size<=40
  ·rw [if_pos hn,if_pos hn]
   simp only [T9]
   cases hp:AL r with
   | none=>
    by_cases h2:r.length%2=0
    ·rw [if_pos h2];rfl
    ·rw [if_neg h2]
   | some xs=>
    have hl:=G7 hp
    by_cases h2:r.length%2=0
    ·rw [if_pos h2]
     simp only [Option.map_some,NI]
     by_cases hb:2<=xs.length/\xs.length<=40/\xs.length%2=0
     ·rw [if_pos hb,if_pos ⟨by omega,by omega⟩];simp
     ·rw [if_neg hb,if_neg (by omega)]
    ·rw [if_neg h2]
     simp only
     rw [if_neg (by omega)]
  ·rw [if_neg hn,if_neg hn]
theorem eH (l:List ByteArray):(match IW l with|none=>none|some (c,l')=>if l'=[] then some c else none)=(match AL l with|some [n]=>some ({ kind:=2,n:=n }:Cm)|_=>none):=by
 match l with
 | []=>rfl
 | [a]=>
  simp only [IW,AM,AL]
  cases AS a <;> first|rfl|simp
 | a::b::r=>
  simp only [IW,AM]
  cases hp:AL (a::b::r) with
  | none=>cases AS a <;> first|rfl|simp
  | some xs=>
   have:=G7 hp
   match xs,this with
   | _::_::_,_=>cases AS a <;> first|rfl|simp
theorem eI (l:List ByteArray):(match E5 l with|none=>none|some (c,l')=>if l'=[] then some c else none)=(match AL l with|some xs=>if xs.length<=300 then some ({ kind:=3,masks:=xs }:Cm) else none|none=>none):=by
 simp only [E5]
 cases AL l with
 | none=>rfl
 | some xs=>
  by_cases h:xs.length<=300
  ·simp [h]
  ·simp [h]
theorem eJ (l:List ByteArray):(match J0 l with|none=>none|some (c,l')=>if l'=[] then some c else none)=(match l with|[]=>none|nm::r=>if nm.size<=40 then FD nm r else none):=by
 cases l with
 | nil=>rfl
 | cons nm r=>
  simp only [J0,BK]
  by_cases hn:nm.size<=40
  ·rw [if_pos hn,if_pos hn]
   simp only
   match r with
   | []=>rfl
   | [a]=>
    simp only [AM,FD]
    cases AS a <;> first|rfl|simp
   | [a,b]=>
    simp only [AM,FD,G4]
    cases AS a with
    | none=>first|rfl|simp
    | some x=>
     simp only
     by_cases h16:b.size=16
     ·rw [if_pos h16,if_pos h16]
      cases BM b.data.toList 0 <;> first|rfl|simp
     ·rw [if_neg h16,if_neg h16]
   | a::b::c::r=>
    simp only [AM,FD,G4]
    cases AS a with
    | none=>first|rfl|simp
    | some x=>
     simp only
     by_cases h16:b.size=16
     ·rw [if_pos h16]
      cases BM b.data.toList 0 <;> first|rfl|simp
     ·rw [if_neg h16]
  ·rw [if_neg hn,if_neg hn]
theorem eL (x:ByteArray):B8 E8 x 0=(CH x:Int)-1:=by
 simp only [B8,E8,CH]
 by_cases h1:x=CG
 ·subst h1;decide
 ·by_cases h2:x=CK
  ·subst h2;decide
  ·by_cases h3:x=CU
   ·subst h3;decide
   ·by_cases h4:x=C1
    ·subst h4;decide
    ·by_cases h5:x=C8
     ·subst h5;decide
     ·simp [h1,h2,h3,h4,h5]
theorem eM (l:List ByteArray):(match E9 l with|none=>none|some (c,l')=>if l'=[] then some c else none)=(match l with|[]=>none|nm::r=>if nm.size<=40 then C9 nm r else none):=by
 cases l with
 | nil=>rfl
 | cons nm r=>
  simp only [E9,BK,eL]
  by_cases hn:nm.size<=40
  ·rw [if_pos hn,if_pos hn]
   simp only
   match r with
   | []=>rfl
   | [x]=>simp only [CS,AM,C9];split <;> simp_all
   | [x,a]=>cases ha:AS a <;> simp [CS,AM,C9,ha]
   | [x,a,b]=>cases ha:AS a <;> cases hb:AS b <;> simp [CS,AM,C9,ha,hb]
   | [x,a,b,c]=>
    by_cases hx:0<CH x
    ·have hx2:0<=(CH x:Int)-1:=by omega
     have hx3:(CH x:Int)-1+1=CH x:=by omega
     simp only [CS,C9,if_pos hx2,if_pos hx,hx3]
     cases ha:AS a <;> cases hb:AS b <;> cases hc:AS c <;> simp [AM,AL,ha,hb,hc]
    ·have hx2:¬0<=(CH x:Int)-1:=by omega
     simp only [CS,C9,if_neg hx2,if_neg hx]
     cases ha:AS a <;> cases hb:AS b <;> cases hc:AS c <;> simp [AL,ha,hb,hc]
   | x::a::b::c::d::r=>
    by_cases hx:0<CH x
    ·have hx2:0<=(CH x:Int)-1:=by omega
     simp only [CS,C9,if_pos hx2]
     cases ha:AS a <;> cases hb:AS b <;> cases hc:AS c <;> simp [AM,ha,hb,hc]
    ·have hx2:¬0<=(CH x:Int)-1:=by omega
     simp only [CS,C9,if_neg hx2]
  ·rw [if_neg hn,if_neg hn]
theorem eN (l:List ByteArray):(match pAt l with|none=>none|some (c,l')=>if l'=[] then some c else none)=(match l with|[]=>none|nm::r=>if nm.size<=40 then (match AL r with|some xs=>(match xs with|[a]=>some ({ ok:=5,qk:=6,qn:=nm,qa:=a }:Cm)|_=>none)|none=>none) else none):=UB (fun s x=>{ ok:=5,qk:=6,qn:=s,qa:=x }) l
theorem eO (l:List ByteArray):(match K8 l with|none=>none|some (c,l')=>if l'=[] then some c else none)=(match l with|[]=>none|nm::r=>if nm.size<=40 then (match AL r with|some xs=>(match xs with|[a]=>some ({ ok:=1,mkd:=4,mn:=nm,mf:=a }:Cm)|_=>none)|none=>none) else none):=UB (fun s x=>{ ok:=1,mkd:=4,mn:=s,mf:=x }) l
theorem eP (l:List ByteArray):(match FW l with|none=>none|some (c,l')=>if l'=[] then some c else none)=(match l with|[]=>none|nm::r=>if nm.size<=40 then (match AL r with|some xs=>(match xs with|[a,b]=>some ({ ok:=1,mkd:=1,mn:=nm,me:=a,ms:=b }:Cm)|_=>none)|none=>none) else none):=UA (fun s x y=>{ ok:=1,mkd:=1,mn:=s,me:=x,ms:=y }) l
theorem J4 (k:Int) (l:List ByteArray):(match EK k l with|none=>none|some (c,l')=>if l'=[] then some c else none)=(match l with|[]=>none|nm::r=>if nm.size<=40 then (match AL r with|some xs=>(match xs with|[a,b]=>some ({ ok:=5,qk:=k,qn:=nm,qa:=a,qb:=b }:Cm)|_=>none)|none=>none) else none):=UA (fun s x y=>{ ok:=5,qk:=k,qn:=s,qa:=x,qb:=y }) l
theorem eQ (ws:List ByteArray):J3 ws=FY ws:=by
 cases ws with
 | nil=>rfl
 | cons h l=>
  simp only [J3,FY]
  by_cases h1:h=CV
  ·subst h1
   rw [show B9 CV=some (.one 2) by decide]
   simp only [if_true,DF]
  rw [if_neg h1]
  by_cases h2:h=CW
  ·subst h2
   rw [show B9 CW=some (.one 3) by decide]
   simp only [if_true,DF]
  rw [if_neg h2]
  by_cases h3:h=CX
  ·subst h3
   rw [show B9 CX=some (.one 4) by decide]
   simp only [if_true,DF]
  rw [if_neg h3]
  by_cases h4:h=B2
  ·subst h4
   rw [show B9 B2=some (.fn 65) by decide]
   exact (eH l).symm
  rw [if_neg h4]
  by_cases h5:h=B3
  ·subst h5
   rw [show B9 B3=some (.fn 66) by decide]
   exact (eI l).symm
  rw [if_neg h5]
  by_cases h6:h=EP
  ·subst h6
   rw [show B9 EP=some (.fn 62) by decide]
   refine Eq.trans ?_ (eJ l).symm
   cases l <;> rfl
  by_cases h7:h=E7
  ·subst h7
   rw [show B9 E7=some (.fn 64) by decide]
   refine Eq.trans ?_ (eM l).symm
   cases l <;> rfl
  simp only [if_neg h6,if_neg h7]
  have key:∀(hd:Option Head) (f:ByteArray->List Int->Option Cm),B9 h=hd->(∀nm xs,BS h nm xs=f nm xs) ->
    (match hd with|none=>none|some hh=>match DF hh l with|none=>none|some (c,l')=>if l'=[] then some c else none)=(match l with|[]=>none|nm::r=>if nm.size<=40 then (match AL r with|some xs=>f nm xs|none=>none) else none) ->
    (match l with|[]=>none|nm::r=>if nm.size<=40 then (match AL r with|some xs=>BS h nm xs|none=>none) else none)=(match B9 h with|none=>none|some hh=>match DF hh l with|none=>none|some (c,l')=>if l'=[] then some c else none):=by
   intro hd f e1 e2 e3
   rw [e1,e3]
   simp only [e2]
  by_cases h8:h=DO
  ·subst h8;exact key (some (.fn 58)) _ (by decide) (fun nm xs=>rfl) (eP l)
  by_cases h9:h=DI
  ·subst h9;exact key (some (.fn 59)) _ (by decide) (fun nm xs=>rfl) (eF l)
  by_cases h10:h=CL
  ·subst h10;exact key (some (.fn 60)) _ (by decide) (fun nm xs=>rfl) (eG l)
  by_cases h11:h=DP
  ·subst h11;exact key (some (.fn 61)) _ (by decide) (fun nm xs=>rfl) (eO l)
  by_cases h12:h=wAt
  ·subst h12;exact key (some (.fn 63)) _ (by decide) (fun nm xs=>rfl) (eN l)
  by_cases h13:h=CG
  ·subst h13;exact key (some (.span 1)) _ (by decide) (fun nm xs=>rfl) (J4 1 l)
  by_cases h14:h=CK
  ·subst h14;exact key (some (.span 2)) _ (by decide) (fun nm xs=>rfl) (J4 2 l)
  by_cases h15:h=CU
  ·subst h15;exact key (some (.span 3)) _ (by decide) (fun nm xs=>rfl) (J4 3 l)
  by_cases h16:h=C1
  ·subst h16;exact key (some (.span 4)) _ (by decide) (fun nm xs=>rfl) (J4 4 l)
  by_cases h17:h=C8
  ·subst h17;exact key (some (.span 5)) _ (by decide) (fun nm xs=>rfl) (J4 5 l)
  by_cases h18:h=EN
  ·subst h18;exact key (some (.span 7)) _ (by decide) (fun nm xs=>rfl) (J4 7 l)
  refine key none (fun _ _=>none) ?_ (fun nm xs=>?_) ?_
  ·simp [B9,IX,LA,h1,h2,h3,h4,h5,h6,h7,h8,h9,h10,h11,h12,h13,h14,h15,h16,h17,h18]
  ·simp [BS,D7,h8,h9,h10,h11,h12,h13,h14,h15,h16,h17,h18]
  ·cases l with
   | nil=>rfl
   | cons nm r=>
    simp only
    split
    ·cases AL r <;> rfl
    ·rfl
end Go.Proofs.YtlnonecibpjcoaaGreatDoor
namespace Go.Proofs.RNP
open Go.Lib
def AV:List UInt8->Nat->Option Nat
 | [],n=>some n
 | b::r,n=>if 48<=b.toNat/\b.toNat<=57 then AV r (10*n+(b.toNat-48)) else none
theorem PQ:∀(l r:List UInt8) (n:Nat),AV (l++r) n=(AV l n).bind (AV r)
 | [],r,n=>rfl
 | b::l,r,n=>by
  simp only [List.cons_append,AV]
  by_cases h:48<=b.toNat/\b.toNat<=57
  ·rw [if_pos h,if_pos h,PQ l r]
  ·rw [if_neg h,if_neg h];rfl
theorem PS (k:Nat) (h:k<10):(UInt8.ofNat (48+k)).toNat=48+k:=by
 simp
 omega
theorem UC (k n:Nat) (h:k<10):AV [UInt8.ofNat (48+k)] n=some (10*n+k):=by
 simp only [AV,PS k h]
 rw [if_pos (by omega)]
 congr 1
 omega
theorem LD (u:Nat):AV (decDigits u) 0=some u:=by
 induction u using Nat.strongRecOn with
 | _ u ih=>
  rw [decDigits]
  by_cases h:u<10
  ·rw [dif_pos h,UC u 0 h];simp
  ·rw [dif_neg h,PQ,ih (u/10) (by omega)]
   simp only [Option.bind_some]
   rw [UC _ _ (by omega)]
   congr 1
   omega
theorem UD:∀(l:List UInt8) (n u:Nat),AV l n=some u->n<=u
 | [],n,u,h=>by simp only [AV,Option.some.injEq] at h;omega
 | b::l,n,u,h=>by
  simp only [AV] at h
  split at h
  ·have:=UD l _ u h;omega
  ·cases h
theorem LE (u:Nat):decDigits u≠[]:=by
 rw [decDigits]
 split <;> simp
theorem eR (u:Nat) (h:1<=u):(decDigits u).head?≠some 48:=by
 induction u using Nat.strongRecOn with
 | _ u ih=>
  rw [decDigits]
  by_cases hu:u<10
  ·rw [dif_pos hu]
   simp only [List.head?_cons,ne_eq,Option.some.injEq]
   intro e
   have:=congrArg UInt8.toNat e
   rw [PS u hu] at this
   simp at this
   omega
  ·rw [dif_neg hu,List.head?_append]
   have h1:=ih (u/10) (by omega) (by omega)
   cases hd:(decDigits (u/10)).head? with
   | none=>exact absurd (List.head?_eq_none_iff.1 hd) (LE _)
   | some b=>rw [hd] at h1;simpa using h1
theorem eS:∀(n:Nat) (l:List UInt8) (u:Nat),l.length=n->l≠[]->(l.head?≠some 48∨l.length=1)->AV l 0=some u->l=decDigits u:=by
 intro n
 induction n with
 | zero=>intro l u hl hne;exact absurd (List.length_eq_zero_iff.1 hl) hne
 | succ n ih=>
  intro l u hl hne hh h
  obtain ⟨l',d,rfl⟩:∃l' d,l=l'++[d]:=⟨l.dropLast,l.getLast hne,(List.dropLast_concat_getLast hne).symm⟩
  rw [PQ] at h
  cases hm:AV l' 0 with
  | none=>rw [hm] at h;cases h
  | some m=>
   rw [hm] at h
   simp only [Option.bind_some,AV] at h
   by_cases hd:48<=d.toNat/\d.toNat<=57
   ·rw [if_pos hd] at h
    simp only [Option.some.injEq] at h
    have hdd:d=UInt8.ofNat (48+(d.toNat-48)):=by
     apply UInt8.toNat.inj
     rw [PS _ (by omega)]
     omega
    by_cases he:l'=[]
    ·subst he
     simp only [AV,Option.some.injEq] at hm
     subst hm
     rw [decDigits,dif_pos (by omega),<-h]
     simp only [List.nil_append]
     rw [show 48+(10*0+(d.toNat-48))=48+(d.toNat-48) by omega,<-hdd]
    ·have hl2:l'.length=n:=by simp at hl;exact hl
     have hpos:0<l'.length:=List.length_pos_iff.2 he
     have hh2:l'.head?≠some 48:=by
      rcases hh with h1|h1
      ·rw [List.head?_append] at h1
       cases hx:l'.head? with
       | none=>exact absurd (List.head?_eq_none_iff.1 hx) he
       | some b=>rw [hx] at h1;simpa using h1
      ·simp at h1;exact absurd h1 he
     have e:=ih l' m hl2 he (.inl hh2) hm
     have hm1:1<=m:=by
      rcases Nat.eq_zero_or_pos m with h0|h0
      ·subst h0
       rw [e] at hh2
       rw [decDigits_one (by decide)] at hh2
       exact absurd rfl hh2
      ·exact h0
     rw [decDigits,dif_neg (by omega),<-h]
     rw [show (10*m+(d.toNat-48))/10=m by omega,show (10*m+(d.toNat-48))%10=d.toNat-48 by omega,<-e,<-hdd]
   ·rw [if_neg hd] at h;cases h
theorem PT (M:Nat) (hM:M<=18446744073709551615):∀(l:List UInt8) (n u:Nat),AV l n=some u->u<=M->parseUintM M n l=.ok u
 | [],n,u,h,_=>by simp only [AV,Option.some.injEq] at h;subst h;rfl
 | b::l,n,u,h,hu=>by
  simp only [AV] at h
  split at h
  ·rename_i hb
   have h1:=UD l _ u h
   rw [parseUintM,if_pos hb,if_neg (by omega),if_neg (by omega),show n*10+(b.toNat-48)=10*n+(b.toNat-48) by omega]
   exact PT M hM l _ u h hu
  ·cases h
theorem eU (u:Nat):∀k,u<10 ^ k->1<=k->(decDigits u).length<=k:=by
 induction u using Nat.strongRecOn with
 | _ u ih=>
  intro k hk h1
  rw [decDigits]
  by_cases hu:u<10
  ·rw [dif_pos hu];simpa using h1
  ·rw [dif_neg hu]
   obtain ⟨j,rfl⟩:∃j,k=j+1:=⟨k-1,by omega⟩
   have hj:1<=j:=by
    rcases Nat.eq_zero_or_pos j with h0|h0
    ·subst h0;simp at hk;omega
    ·exact h0
   rw [Nat.pow_succ] at hk
   have:=ih (u/10) (by omega) j (by omega) hj
   simp
   exact this
def DJ (neg:Bool):Option Nat->Option Int
 | none=>none
 | some n=>if neg then (if 9223372036854775808<n then none else some (-(n:Int))) else (if 9223372036854775807<n then none else some (n:Int))
def G8 (neg:Bool) (t:List UInt8):Option Int :=
 if t=[]∨19<t.length∨(t.head?=some 48/\(1<t.length∨neg=true)) then none else DJ neg (AV t 0)
def G9 (l:List UInt8):Option Int:=if l.head?=some 45 then G8 true l.tail else G8 false l
theorem UE (neg:Bool) (u:Nat) (h:neg=true->1<=u) (hu:u<=9223372036854775808):G8 neg (decDigits u)=DJ neg (some u):=by
 unfold G8
 rw [if_neg,LD]
 rintro (h1|h1|⟨h1,h2⟩)
 ·exact LE u h1
 ·have:=eU u 19 (by omega) (by decide);omega
 ·rcases Nat.eq_zero_or_pos u with h0|h0
  ·subst h0
   rcases h2 with h2|h2
   ·rw [decDigits_one (by decide)] at h2;simp at h2
   ·have:=h h2;omega
  ·exact eR u h0 h1
theorem eV (u:Nat):(decDigits u).head?≠some 45:=by
 have h:=LD u
 cases hd:decDigits u with
 | nil=>simp
 | cons b l=>
  rw [hd] at h
  simp only [AV] at h
  split at h
  ·rename_i hb
   simp only [List.head?_cons,ne_eq,Option.some.injEq]
   rintro rfl
   simp at hb
  ·cases h
theorem eY (v:Int) (h0:-9223372036854775808<=v) (h1:v<=9223372036854775807):G9 (itoa v)=some v:=by
 unfold G9 itoa
 by_cases hv:v<0
 ·rw [if_pos hv]
  simp only [List.head?_cons,if_true,List.tail_cons]
  rw [UE true _ (fun _=>by omega) (by omega)]
  simp only [DJ,if_true]
  rw [if_neg (by omega)]
  congr 1
  omega
 ·rw [if_neg hv,if_neg (eV _),UE false _ (fun h=>by cases h) (by omega)]
  simp only [DJ,Bool.false_eq_true,if_false]
  rw [if_neg (by omega)]
  congr 1
  omega
theorem UF {neg:Bool} {t:List UInt8} {v:Int} (h:G8 neg t=some v):∃u,t=decDigits u/\DJ neg (some u)=some v/\(neg=true->1<=u):=by
 unfold G8 at h
 split at h
 ·cases h
 ·rename_i hb
  simp only [not_or,not_and] at hb
  obtain ⟨h1,h2,h3⟩:=hb
  cases ha:AV t 0 with
  | none=>rw [ha] at h;cases h
  | some u=>
   rw [ha] at h
   have hl:t.length≠0:=fun e=>h1 (List.length_eq_zero_iff.1 e)
   have e:t=decDigits u:=eS t.length t u rfl h1 (by
    by_cases hh:t.head?=some 48
    ·have:=h3 hh
     exact .inr (by omega)
    ·exact .inl hh) ha
   refine ⟨u,e,h,fun hn=>?_⟩
   rcases Nat.eq_zero_or_pos u with h0|h0
   ·subst h0
    exfalso
    rw [decDigits_one (by decide)] at e
    exact (h3 (by rw [e];rfl)).2 hn
   ·exact h0
theorem eZ {l:List UInt8} {v:Int} (h:G9 l=some v):l=itoa v/\-9223372036854775808<=v/\v<=9223372036854775807:=by
 unfold G9 at h
 split at h
 ·rename_i hh
  obtain ⟨u,e,h2,h3⟩:=UF h
  have h3:=h3 rfl
  simp only [DJ,if_true] at h2
  split at h2
  ·cases h2
  ·injection h2 with h2
   subst h2
   refine ⟨?_,by omega,by omega⟩
   cases l with
   | nil=>cases hh
   | cons b r=>
    simp only [List.head?_cons,Option.some.injEq] at hh
    simp only [List.tail_cons] at e
    subst hh e
    unfold itoa
    rw [if_pos (by omega)]
    simp
 ·obtain ⟨u,e,h2,_⟩:=UF h
  simp only [DJ,Bool.false_eq_true,if_false] at h2
  split at h2
  ·cases h2
  ·injection h2 with h2
   subst h2
   refine ⟨?_,by omega,by omega⟩
   unfold itoa
   rw [if_neg (by omega),e]
   simp
theorem fA (v:Int) (h0:-9223372036854775808<=v) (h1:v<=9223372036854775807):parseIntB 64 (itoa v)=.ok v:=by
 unfold itoa
 by_cases hv:v<0
 ·rw [if_pos hv]
  unfold parseIntB
  have e:parseUintB 64 (decDigits v.natAbs)=.ok v.natAbs:=by
   unfold parseUintB
   rw [if_neg (LE _)]
   exact PT _ (by decide) _ _ _ (LD _) (by simp;omega)
  simp only [show (45:UInt8).toNat=45 from rfl,or_true,if_true,e,not_true,false_and,if_false]
  rw [if_neg (by simp;omega)]
  congr 1
  omega
 ·rw [if_neg hv]
  have e:parseUintB 64 (decDigits v.toNat)=.ok v.toNat:=by
   unfold parseUintB
   rw [if_neg (LE _)]
   exact PT _ (by decide) _ _ _ (LD _) (by simp;omega)
  cases hd:decDigits v.toNat with
  | nil=>exact absurd hd (LE _)
  | cons b r=>
   have hb:48<=b.toNat/\b.toNat<=57:=by
    have h:=LD v.toNat
    rw [hd] at h
    simp only [AV] at h
    split at h
    ·assumption
    ·cases h
   rw [hd] at e
   unfold parseIntB
   simp only
   rw [if_neg (by omega),e]
   simp only
   rw [if_neg (by simp;omega),if_neg (by simp;omega),if_neg (by omega)]
   congr 1
   omega
theorem fC (l:List UInt8):(match parseIntB 64 l with|.ok v=>if itoa v=l then some v else none|_=>none)=G9 l:=by
 have hin:∀v,parseIntB 64 l=.ok v->-9223372036854775808<=v/\v<=9223372036854775807:=by
  intro v h
  unfold parseIntB at h
  cases l with
  | nil=>cases h
  | cons c r=>
   simp only at h
   split at h
   ·cases h
   ·cases h
   ·split at h
    ·cases h
    ·split at h
     ·cases h
     ·rename_i hb1 hb2
      injection h with h
      simp at hb1 hb2
      by_cases hc:c.toNat=45
      ·rw [if_pos hc] at h
       have:=hb2 hc
       omega
      ·rw [if_neg hc] at h
       have:=hb1 hc
       omega
 cases hr:G9 l with
 | some v=>
  obtain ⟨rfl,h0,h1⟩:=eZ hr
  rw [fA v h0 h1]
  simp
 | none=>
  cases hp:parseIntB 64 l with
  | ok v=>
   simp only
   obtain ⟨h0,h1⟩:=hin v hp
   by_cases he:itoa v=l
   ·rw [<-he,eY v h0 h1] at hr
    cases hr
   ·rw [if_neg he]
  | _=>rfl
end Go.Proofs.RNP
namespace Go.Proofs.YtlnonecibpjcoaaGreatDoor
open Go.RowKit Go.Proofs.RNP
attribute [local go_sem] Oper.semAt_some
def DY (neg:Bool) (t:ByteArray):Option Int :=
 if h:0<t.size then
  if 19<t.size∨((t[0]'h).toNat=48/\(1<t.size∨neg=true)) then none else DJ neg (AV t.data.toList 0)
 else none
def IY (s:ByteArray):Option Int:=if h:0<s.size then (if (s[0]'h).toNat=45 then DY true (s.extract 1 s.size) else DY false s) else none
def IZ (r:Option Int):Value:=match r with|some v=>.tuple #[.int .i64 v,.bool true]|none=>.tuple #[.int .i64 0,.bool false]
theorem fD (n:Nat) (h:¬9223372036854775808<n):wrap64 (IntKind.u64.wrap (-(n:Int)))=-(n:Int):=by
 simp only [IntKind.wrap,IntKind.bits,IntKind.signed,wrap64,Bool.false_and,Bool.false_eq_true,if_false]
 omega
theorem fF (s:ByteArray):(s.extract 1 s.size).size=s.size-1:=by simp
theorem NJ (t:ByteArray) (h:0<t.size):t.toList.isEmpty=false:=by
 cases hh:t.toList with
 | nil=>
  have:t.toList.length=t.size:=by rw [ByteArray.toList_eq];simp
  rw [hh] at this
  simp at this
  omega
 | cons a l=>rfl
theorem UG (s:ByteArray) (hs:s.size<=1000000) (w:World):Calls Tryz.prog 38 #[.string s] w fun e w'=>e=.returned (IZ (IY s))/\w'=w:=by
 obtain ⟨R,hR⟩:∃R,R=IY s:=⟨_,rfl⟩
 have HR:=AA hR
 rw [<-hR]
 clear hR
 by_cases h0:0<s.size
 ·have e1:decide ((0:Int)<(s.size:Int))=true:=decide_eq_true (by omega)
  by_cases hm:(s[0]'h0).toNat=45
  ·have e2:(((s[0]'h0).toNat:Int)== 45)=true:=by simp [hm]
   have e3:decide (((s[0]'h0).toNat:Int)=45)=true:=decide_eq_true (by omega)
   have hz:=fF s
   obtain ⟨T,hT⟩:∃T,s.extract 1 s.size=T:=⟨_,rfl⟩
   have HR2:Hid (R=DY true T):=AA (by rw [HR.out,IY,dif_pos h0,if_pos hm,hT])
   rw [hT] at hz
   have hz2:s.size-1=T.size:=by omega
   clear HR hz
   by_cases hT0:0<T.size
   ·have eT0:=NJ T hT0
    have eT0b:decide ((0:Int)<(T.size:Int))=true:=decide_eq_true (by omega)
    by_cases hT1:19<T.size
    ·have e4:decide ((19:Int)<(T.size:Int))=true:=decide_eq_true (by omega)
     go_enter Tryz.func38,Tryz.ntmps38
     go_wp2
     all_goals (go_ret2;exact ⟨by rw [HR2.out,DY,dif_pos hT0,if_pos (Or.inl hT1)];rfl,rfl⟩)
    ·have e4:decide ((19:Int)<(T.size:Int))=false:=decide_eq_false (by omega)
     by_cases hz:(T[0]'hT0).toNat=48
     ·have e5:(((T[0]'hT0).toNat:Int)== 48)=true:=by simp [hz]
      have e6:decide (((T[0]'hT0).toNat:Int)=48)=true:=decide_eq_true (by omega)
      go_enter Tryz.func38,Tryz.ntmps38
      go_wp2
      all_goals (go_ret2;exact ⟨by rw [HR2.out,DY,dif_pos hT0,if_pos (Or.inr ⟨hz,Or.inr rfl⟩)];rfl,rfl⟩)
     ·have e5:(((T[0]'hT0).toNat:Int)== 48)=false:=by simp;omega
      have e6:decide (((T[0]'hT0).toNat:Int)=48)=false:=decide_eq_false (by omega)
      have hbad:¬(19<T.size∨((T[0]'hT0).toNat=48/\(1<T.size∨true=true))):=by simp;omega
      have HR3:Hid (R=DJ true (AV T.data.toList 0)):=AA (by rw [HR2.out,DY,dif_pos hT0,if_neg hbad])
      clear hbad
      go_enter Tryz.func38,Tryz.ntmps38
      go_wp2
      go_loopw [5,6] (fun v5 v6 wr=>∃k n:Nat,wr=w/\v5=.int .u64 (n:Int)/\v6=.int .i64 (k:Int)/\k<=T.size/\n<10 ^ k/\Hid (AV (T.data.toList.drop k) n=AV T.data.toList 0)) (fun _ v6 _=>T.size-(intOf v6).toNat)
      case atStart=>exact ⟨0,0,rfl,rfl,rfl,by omega,by decide,AA rfl⟩
      case round=>
       obtain ⟨k,n,rfl,rfl,rfl,hk,hn,HH⟩:=hrel
       by_cases hp:k<T.size
       ·have e7:decide ((k:Int)<(T.size:Int))=true:=decide_eq_true (by omega)
        have hdrop:=F6 T k hp
        rw [hdrop] at HH
        by_cases hlo:(T[k]'hp).toNat<48
        ·have HN:Hid (AV T.data.toList 0=none):=AA (by rw [<-HH.out,AV,if_neg (by omega)])
         have e8:decide (((T[k]'hp).toNat:Int)<48)=true:=decide_eq_true (by omega)
         clear HH hdrop
         go_wp2
         go_ret2
         exact ⟨by rw [HR3.out,HN.out];rfl,rfl⟩
        ·have e8:decide (((T[k]'hp).toNat:Int)<48)=false:=decide_eq_false (by omega)
         by_cases hhi:57<(T[k]'hp).toNat
         ·have HN:Hid (AV T.data.toList 0=none):=AA (by rw [<-HH.out,AV,if_neg (by omega)])
          have e9:decide ((57:Int)<((T[k]'hp).toNat:Int))=true:=decide_eq_true (by omega)
          clear HH hdrop
          go_wp2
          go_ret2
          exact ⟨by rw [HR3.out,HN.out];rfl,rfl⟩
         ·have e9:decide ((57:Int)<((T[k]'hp).toNat:Int))=false:=decide_eq_false (by omega)
          have HN:Hid (AV (T.data.toList.drop (k+1)) (10*n+((T[k]'hp).toNat-48))=AV T.data.toList 0):=AA (by rw [<-HH.out,AV,if_pos ⟨by omega,by omega⟩])
          have hn2:n<1000000000000000000:=Nat.lt_of_lt_of_le hn (Nat.le_trans (Nat.pow_le_pow_right (by decide) (show k<=18 by omega)) (by decide))
          have hn3:10*n+((T[k]'hp).toNat-48)<10 ^ (k+1):=by rw [Nat.pow_succ];omega
          clear HH hdrop
          go_wp2
          go_roundw
          case rel=>exact ⟨k+1,10*n+((T[k]'hp).toNat-48),by trivial,by go_num,by go_num,by omega,hn3,HN⟩
          case measure=>simp [intOf];omega
       ·have e7:decide ((k:Int)<(T.size:Int))=false:=decide_eq_false (by omega)
        have hn2:n<10000000000000000000:=Nat.lt_of_lt_of_le hn (Nat.le_trans (Nat.pow_le_pow_right (by decide) (show k<=19 by omega)) (by decide))
        have HN:Hid (AV T.data.toList 0=some n):=AA (by rw [<-HH.out,List.drop_eq_nil_of_le (by simp;omega)];rfl)
        clear HH
        by_cases hg:9223372036854775808<n
        ·have e10:decide ((9223372036854775808:Int)<(n:Int))=true:=decide_eq_true (by omega)
         go_wp2
         go_ret2
         exact ⟨by rw [HR3.out,HN.out];simp only [DJ,if_true];rw [if_pos hg];rfl,rfl⟩
        ·have e10:decide ((9223372036854775808:Int)<(n:Int))=false:=decide_eq_false (by omega)
         go_wp2
         go_ret2
         refine ⟨?_,rfl⟩
         rw [HR3.out,HN.out]
         simp only [DJ,if_true]
         rw [if_neg hg]
         go_simp;simp only [IZ];rw [fD n hg]
   ·have eT:T.toList=[]:=by
     have h1:T.toList.length=T.size:=by rw [ByteArray.toList_eq];simp
     exact List.eq_nil_of_length_eq_zero (by omega)
    go_enter Tryz.func38,Tryz.ntmps38
    go_wp2
    all_goals (go_ret2;exact ⟨by rw [HR2.out,DY,dif_neg hT0];rfl,rfl⟩)
  ·have e2:(((s[0]'h0).toNat:Int)== 45)=false:=by simp;omega
   have e3:decide (((s[0]'h0).toNat:Int)=45)=false:=decide_eq_false (by omega)
   have HR2:Hid (R=DY false s):=AA (by rw [HR.out,IY,dif_pos h0,if_neg hm])
   clear HR
   by_cases hT0:0<s.size
   ·have eT0:=NJ s hT0
    have eT0b:decide ((0:Int)<(s.size:Int))=true:=decide_eq_true (by omega)
    by_cases hT1:19<s.size
    ·have e4:decide ((19:Int)<(s.size:Int))=true:=decide_eq_true (by omega)
     go_enter Tryz.func38,Tryz.ntmps38
     go_wp2
     all_goals (go_ret2;exact ⟨by rw [HR2.out,DY,dif_pos hT0,if_pos (Or.inl hT1)];rfl,rfl⟩)
    ·have e4:decide ((19:Int)<(s.size:Int))=false:=decide_eq_false (by omega)
     by_cases hz:(s[0]'hT0).toNat=48
     ·have e5:(((s[0]'hT0).toNat:Int)== 48)=true:=by simp [hz]
      have e6:decide (((s[0]'hT0).toNat:Int)=48)=true:=decide_eq_true (by omega)
      by_cases hl:1<s.size
      ·have e7:decide ((1:Int)<(s.size:Int))=true:=decide_eq_true (by omega)
       go_enter Tryz.func38,Tryz.ntmps38
       go_wp2
       all_goals (go_ret2;exact ⟨by rw [HR2.out,DY,dif_pos hT0,if_pos (Or.inr ⟨hz,Or.inl hl⟩)];rfl,rfl⟩)
      ·have e7:decide ((1:Int)<(s.size:Int))=false:=decide_eq_false (by omega)
       have hbad:¬(19<s.size∨((s[0]'hT0).toNat=48/\(1<s.size∨false=true))):=by simp;omega
       have HR3:Hid (R=DJ false (AV s.data.toList 0)):=AA (by rw [HR2.out,DY,dif_pos hT0,if_neg hbad])
       clear hbad
       go_enter Tryz.func38,Tryz.ntmps38
       go_wp2
       go_loopw [5,6] (fun v5 v6 wr=>∃k n:Nat,wr=w/\v5=.int .u64 (n:Int)/\v6=.int .i64 (k:Int)/\k<=s.size/\n<10 ^ k/\Hid (AV (s.data.toList.drop k) n=AV s.data.toList 0)) (fun _ v6 _=>s.size-(intOf v6).toNat)
       case atStart=>exact ⟨0,0,rfl,rfl,rfl,by omega,by decide,AA rfl⟩
       case round=>
        obtain ⟨k,n,rfl,rfl,rfl,hk,hn,HH⟩:=hrel
        by_cases hp:k<s.size
        ·have e7:decide ((k:Int)<(s.size:Int))=true:=decide_eq_true (by omega)
         have hdrop:=F6 s k hp
         rw [hdrop] at HH
         by_cases hlo:(s[k]'hp).toNat<48
         ·have HN:Hid (AV s.data.toList 0=none):=AA (by rw [<-HH.out,AV,if_neg (by omega)])
          have e8:decide (((s[k]'hp).toNat:Int)<48)=true:=decide_eq_true (by omega)
          clear HH hdrop
          go_wp2
          go_ret2
          exact ⟨by rw [HR3.out,HN.out];rfl,rfl⟩
         ·have e8:decide (((s[k]'hp).toNat:Int)<48)=false:=decide_eq_false (by omega)
          by_cases hhi:57<(s[k]'hp).toNat
          ·have HN:Hid (AV s.data.toList 0=none):=AA (by rw [<-HH.out,AV,if_neg (by omega)])
           have e9:decide ((57:Int)<((s[k]'hp).toNat:Int))=true:=decide_eq_true (by omega)
           clear HH hdrop
           go_wp2
           go_ret2
           exact ⟨by rw [HR3.out,HN.out];rfl,rfl⟩
          ·have e9:decide ((57:Int)<((s[k]'hp).toNat:Int))=false:=decide_eq_false (by omega)
           have HN:Hid (AV (s.data.toList.drop (k+1)) (10*n+((s[k]'hp).toNat-48))=AV s.data.toList 0):=AA (by rw [<-HH.out,AV,if_pos ⟨by omega,by omega⟩])
           have hn2:n<1000000000000000000:=Nat.lt_of_lt_of_le hn (Nat.le_trans (Nat.pow_le_pow_right (by decide) (show k<=18 by omega)) (by decide))
           have hn3:10*n+((s[k]'hp).toNat-48)<10 ^ (k+1):=by rw [Nat.pow_succ];omega
           clear HH hdrop
           go_wp2
           go_roundw
           case rel=>exact ⟨k+1,10*n+((s[k]'hp).toNat-48),by trivial,by go_num,by go_num,by omega,hn3,HN⟩
           case measure=>simp [intOf];omega
        ·have e7:decide ((k:Int)<(s.size:Int))=false:=decide_eq_false (by omega)
         have hn2:n<10000000000000000000:=Nat.lt_of_lt_of_le hn (Nat.le_trans (Nat.pow_le_pow_right (by decide) (show k<=19 by omega)) (by decide))
         have HN:Hid (AV s.data.toList 0=some n):=AA (by rw [<-HH.out,List.drop_eq_nil_of_le (by simp;omega)];rfl)
         clear HH
         by_cases hg:9223372036854775807<n
         ·have e10:decide ((9223372036854775807:Int)<(n:Int))=true:=decide_eq_true (by omega)
          go_wp2
          go_ret2
          exact ⟨by rw [HR3.out,HN.out];simp only [DJ,Bool.false_eq_true,if_false];rw [if_pos hg];rfl,rfl⟩
         ·have e10:decide ((9223372036854775807:Int)<(n:Int))=false:=decide_eq_false (by omega)
          go_wp2
          go_ret2
          refine ⟨?_,rfl⟩
          rw [HR3.out,HN.out]
          simp only [DJ,Bool.false_eq_true,if_false]
          rw [if_neg hg]
          go_simp;simp only [IZ]
     ·have e5:(((s[0]'hT0).toNat:Int)== 48)=false:=by simp;omega
      have e6:decide (((s[0]'hT0).toNat:Int)=48)=false:=decide_eq_false (by omega)
      have hbad:¬(19<s.size∨((s[0]'hT0).toNat=48/\(1<s.size∨false=true))):=by simp;omega
      have HR3:Hid (R=DJ false (AV s.data.toList 0)):=AA (by rw [HR2.out,DY,dif_pos hT0,if_neg hbad])
      clear hbad
      go_enter Tryz.func38,Tryz.ntmps38
      go_wp2
      go_loopw [5,6] (fun v5 v6 wr=>∃k n:Nat,wr=w/\v5=.int .u64 (n:Int)/\v6=.int .i64 (k:Int)/\k<=s.size/\n<10 ^ k/\Hid (AV (s.data.toList.drop k) n=AV s.data.toList 0)) (fun _ v6 _=>s.size-(intOf v6).toNat)
      case atStart=>exact ⟨0,0,rfl,rfl,rfl,by omega,by decide,AA rfl⟩
      case round=>
       obtain ⟨k,n,rfl,rfl,rfl,hk,hn,HH⟩:=hrel
       by_cases hp:k<s.size
       ·have e7:decide ((k:Int)<(s.size:Int))=true:=decide_eq_true (by omega)
        have hdrop:=F6 s k hp
        rw [hdrop] at HH
        by_cases hlo:(s[k]'hp).toNat<48
        ·have HN:Hid (AV s.data.toList 0=none):=AA (by rw [<-HH.out,AV,if_neg (by omega)])
         have e8:decide (((s[k]'hp).toNat:Int)<48)=true:=decide_eq_true (by omega)
         clear HH hdrop
         go_wp2
         go_ret2
         exact ⟨by rw [HR3.out,HN.out];rfl,rfl⟩
        ·have e8:decide (((s[k]'hp).toNat:Int)<48)=false:=decide_eq_false (by omega)
         by_cases hhi:57<(s[k]'hp).toNat
         ·have HN:Hid (AV s.data.toList 0=none):=AA (by rw [<-HH.out,AV,if_neg (by omega)])
          have e9:decide ((57:Int)<((s[k]'hp).toNat:Int))=true:=decide_eq_true (by omega)
          clear HH hdrop
          go_wp2
          go_ret2
          exact ⟨by rw [HR3.out,HN.out];rfl,rfl⟩
         ·have e9:decide ((57:Int)<((s[k]'hp).toNat:Int))=false:=decide_eq_false (by omega)
          have HN:Hid (AV (s.data.toList.drop (k+1)) (10*n+((s[k]'hp).toNat-48))=AV s.data.toList 0):=AA (by rw [<-HH.out,AV,if_pos ⟨by omega,by omega⟩])
          have hn2:n<1000000000000000000:=Nat.lt_of_lt_of_le hn (Nat.le_trans (Nat.pow_le_pow_right (by decide) (show k<=18 by omega)) (by decide))
          have hn3:10*n+((s[k]'hp).toNat-48)<10 ^ (k+1):=by rw [Nat.pow_succ];omega
          clear HH hdrop
          go_wp2
          go_roundw
          case rel=>exact ⟨k+1,10*n+((s[k]'hp).toNat-48),by trivial,by go_num,by go_num,by omega,hn3,HN⟩
          case measure=>simp [intOf];omega
       ·have e7:decide ((k:Int)<(s.size:Int))=false:=decide_eq_false (by omega)
        have hn2:n<10000000000000000000:=Nat.lt_of_lt_of_le hn (Nat.le_trans (Nat.pow_le_pow_right (by decide) (show k<=19 by omega)) (by decide))
        have HN:Hid (AV s.data.toList 0=some n):=AA (by rw [<-HH.out,List.drop_eq_nil_of_le (by simp;omega)];rfl)
        clear HH
        by_cases hg:9223372036854775807<n
        ·have e10:decide ((9223372036854775807:Int)<(n:Int))=true:=decide_eq_true (by omega)
         go_wp2
         go_ret2
         exact ⟨by rw [HR3.out,HN.out];simp only [DJ,Bool.false_eq_true,if_false];rw [if_pos hg];rfl,rfl⟩
        ·have e10:decide ((9223372036854775807:Int)<(n:Int))=false:=decide_eq_false (by omega)
         go_wp2
         go_ret2
         refine ⟨?_,rfl⟩
         rw [HR3.out,HN.out]
         simp only [DJ,Bool.false_eq_true,if_false]
         rw [if_neg hg]
         go_simp;simp only [IZ]
   ·have eT:s.toList=[]:=by
     have h1:s.toList.length=s.size:=by rw [ByteArray.toList_eq];simp
     exact List.eq_nil_of_length_eq_zero (by omega)
    go_enter Tryz.func38,Tryz.ntmps38
    go_wp2
    all_goals (go_ret2;exact ⟨by rw [HR2.out,DY,dif_neg hT0];rfl,rfl⟩)
 ·have e1:decide ((0:Int)<(s.size:Int))=false:=decide_eq_false (by omega)
  have eT:s.toList=[]:=by
   have h1:s.toList.length=s.size:=by rw [ByteArray.toList_eq];simp
   exact List.eq_nil_of_length_eq_zero (by omega)
  go_enter Tryz.func38,Tryz.ntmps38
  go_wp2
  all_goals (go_ret2;exact ⟨by rw [HR.out,IY,dif_neg h0];rfl,rfl⟩)
theorem UH (neg:Bool) (t:ByteArray):DY neg t=G8 neg t.data.toList:=by
 have hsz:t.data.toList.length=t.size:=by simp
 unfold DY G8
 by_cases h:0<t.size
 ·rw [dif_pos h]
  have hne:t.data.toList≠[]:=by intro e;rw [e] at hsz;simp at hsz;omega
  have hh:t.data.toList.head?=some (t[0]'h):=by
   have:=F6 t 0 h
   rw [List.drop_zero] at this
   rw [this];rfl
  have e1:(t.data.toList.head?=some 48)↔(t[0]'h).toNat=48:=by
   rw [hh,Option.some.injEq]
   constructor
   ·intro e;rw [e];rfl
   ·intro e;exact UInt8.toNat.inj e
  simp only [hne,false_or,hsz,e1]
 ·rw [dif_neg h]
  have he:t.data.toList=[]:=List.eq_nil_of_length_eq_zero (by omega)
  rw [if_pos (.inl he)]
theorem UI (s:ByteArray):IY s=AS s:=by
 have h2:AS s=G9 s.data.toList:=by
  rw [<-fC]
  unfold AS
  cases Lib.parseIntB 64 s.data.toList with
  | ok v=>
   simp only
   have e:(AJ v=s)↔(Lib.itoa v=s.data.toList):=by
    unfold AJ
    constructor
    ·intro e;rw [<-e]
    ·intro e;rw [e]
   by_cases h:AJ v=s
   ·rw [if_pos h,if_pos (e.1 h)]
   ·rw [if_neg h,if_neg fun x=>h (e.2 x)]
  | _=>rfl
 rw [h2]
 unfold IY G9
 have hsz:s.data.toList.length=s.size:=by simp
 by_cases h:0<s.size
 ·rw [dif_pos h]
  have hd:=F6 s 0 h
  rw [List.drop_zero] at hd
  have e1:(s.data.toList.head?=some 45)↔(s[0]'h).toNat=45:=by
   rw [hd,List.head?_cons,Option.some.injEq]
   constructor
   ·intro e;rw [e];rfl
   ·intro e;exact UInt8.toNat.inj e
  by_cases hm:(s[0]'h).toNat=45
  ·rw [if_pos hm,if_pos (e1.2 hm),UH]
   congr 1
   simp [<-List.drop_one]
   try exact List.take_of_length_le (by simp)
  ·rw [if_neg hm,if_neg fun x=>hm (e1.1 x),UH]
 ·rw [dif_neg h]
  have he:s.data.toList=[]:=List.eq_nil_of_length_eq_zero (by omega)
  rw [he]
  rfl
open Go.RowKit
theorem fG (b:UInt8) (w:World):Calls Tryz.prog 72 #[.int .u8 (b.toNat:Int)] w fun e w'=>e=.returned (.int .i64 (match DT b with|some d=>(d:Int)|none=>-1))/\w'=w:=by
 have hlt:=b.toNat_lt
 obtain ⟨R,hR⟩:∃R:Int,R=(match DT b with|some d=>(d:Int)|none=>-1):=⟨_,rfl⟩
 rw [<-hR]
 unfold DT at hR
 obtain ⟨n,hn⟩:∃n,n=b.toNat:=⟨_,rfl⟩
 rw [<-hn] at hR hlt ⊢
 clear hn
 have HR:=AA hR
 clear hR
 by_cases h1:n<48
 ·have e1:decide ((48:Int)<=(n:Int))=false:=decide_eq_false (by omega)
  have e2:decide ((97:Int)<=(n:Int))=false:=decide_eq_false (by omega)
  go_enter Tryz.func72,Tryz.ntmps72
  go_wp2
  all_goals (go_ret;have hR:=HR.out;rw [if_neg (by omega),if_neg (by omega)] at hR;subst hR;exact ⟨by first|rfl|go_num,rfl⟩)
 ·have e1:decide ((48:Int)<=(n:Int))=true:=decide_eq_true (by omega)
  by_cases h2:n<=57
  ·have e3:decide ((n:Int)<=57)=true:=decide_eq_true (by omega)
   go_enter Tryz.func72,Tryz.ntmps72
   go_wp2
   all_goals (go_ret;have hR:=HR.out;rw [if_pos (by omega)] at hR;subst hR;exact ⟨by first|rfl|go_num,rfl⟩)
  ·have e3:decide ((n:Int)<=57)=false:=decide_eq_false (by omega)
   by_cases h3:97<=n
   ·have e4:decide ((97:Int)<=(n:Int))=true:=decide_eq_true (by omega)
    by_cases h4:n<=102
    ·have e5:decide ((n:Int)<=102)=true:=decide_eq_true (by omega)
     go_enter Tryz.func72,Tryz.ntmps72
     go_wp2
     all_goals (go_ret;have hR:=HR.out;rw [if_neg (by omega),if_pos (by omega)] at hR;subst hR;exact ⟨by first|rfl|go_num,rfl⟩)
    ·have e5:decide ((n:Int)<=102)=false:=decide_eq_false (by omega)
     go_enter Tryz.func72,Tryz.ntmps72
     go_wp2
     all_goals (go_ret;have hR:=HR.out;rw [if_neg (by omega),if_neg (by omega)] at hR;subst hR;exact ⟨by first|rfl|go_num,rfl⟩)
   ·have e4:decide ((97:Int)<=(n:Int))=false:=decide_eq_false (by omega)
    go_enter Tryz.func72,Tryz.ntmps72
    go_wp2
    all_goals (go_ret;have hR:=HR.out;rw [if_neg (by omega),if_neg (by omega)] at hR;subst hR;exact ⟨by first|rfl|go_num,rfl⟩)
def UJ (r:Option Nat):Value:=match r with|some v=>.tuple #[.int .u64 (v:Int),.bool true]|none=>.tuple #[.int .u64 0,.bool false]
def HG (s:ByteArray):Option Nat:=if s.size=16 then BM s.data.toList 0 else none
theorem fH (s:ByteArray) (hs:s.size<=1000000) (w:World):Calls Tryz.prog 39 #[.string s] w fun e w'=>e=.returned (UJ (HG s))/\w'=w:=by
 obtain ⟨R,hR⟩:∃R,R=HG s:=⟨_,rfl⟩
 have HR:=AA hR
 rw [<-hR]
 clear hR
 have cD:=fG
 by_cases h16:s.size=16
 ·have e1:((s.size:Int) != 16)=false:=by simp;omega
  have e2:((s.size:Int)== 16)=true:=by simp;omega
  have e3:decide ((s.size:Int)=16)=true:=decide_eq_true (by omega)
  have HR2:Hid (R=BM s.data.toList 0):=AA (by rw [HR.out,HG,if_pos h16])
  clear HR
  go_enter Tryz.func39,Tryz.ntmps39
  go_wp2
  go_loopw [4,5] (fun v4 v5 wr=>∃k n:Nat,wr=w/\v4=.int .u64 (n:Int)/\v5=.int .i64 (k:Int)/\k<=16/\n<16 ^ k/\Hid (BM (s.data.toList.drop k) n=BM s.data.toList 0)) (fun _ v5 _=>16-(intOf v5).toNat)
  case atStart=>exact ⟨0,0,rfl,rfl,rfl,by omega,by decide,AA rfl⟩
  case round=>
   obtain ⟨k,n,rfl,rfl,rfl,hk,hn,HH⟩:=hrel
   by_cases hp:k<16
   ·have e7:decide ((k:Int)<16)=true:=decide_eq_true (by omega)
    have hps:k<s.size:=by omega
    have hdrop:=F6 s k hps
    rw [hdrop] at HH
    have hn2:n<1152921504606846976:=Nat.lt_of_lt_of_le hn (Nat.le_trans (Nat.pow_le_pow_right (by decide) (show k<=15 by omega)) (by decide))
    have c1:=cD (s[k]'hps)
    cases hd:DT (s[k]'hps) with
    | none=>
     rw [hd] at c1
     simp only at c1
     have HN:Hid (BM s.data.toList 0=none):=AA (by rw [<-HH.out];simp [BM,hd])
     clear HH hd hdrop
     go_wp2_with fail
     refine (c1 _).mono ?_
     rintro e w4 ⟨rfl,rfl⟩
     go_wp2
     go_ret2
     exact ⟨by rw [HR2.out,HN.out];rfl,rfl⟩
    | some d=>
     rw [hd] at c1
     simp only at c1
     have hd16:=K4 hd
     have e8:decide ((d:Int)<0)=false:=decide_eq_false (by omega)
     have HN:Hid (BM (s.data.toList.drop (k+1)) (16*n+d)=BM s.data.toList 0):=AA (by rw [<-HH.out];simp [BM,hd])
     have hn3:16*n+d<16 ^ (k+1):=by rw [Nat.pow_succ];omega
     clear HH hd hdrop
     go_wp2_with fail
     refine (c1 _).mono ?_
     rintro e w4 ⟨rfl,rfl⟩
     go_wp2
     go_roundw
     case rel=>exact ⟨k+1,16*n+d,by trivial,by go_num,by go_num,by omega,hn3,HN⟩
     case measure=>simp [intOf];omega
   ·have e7:decide ((k:Int)<16)=false:=decide_eq_false (by omega)
    have HN:Hid (BM s.data.toList 0=some n):=AA (by rw [<-HH.out,List.drop_eq_nil_of_le (by simp;omega)];rfl)
    clear HH
    go_wp2
    go_ret2
    exact ⟨by rw [HR2.out,HN.out];rfl,rfl⟩
 ·have e1:((s.size:Int) != 16)=true:=by simp;omega
  have e2:((s.size:Int)== 16)=false:=by simp;omega
  have e3:decide ((s.size:Int)=16)=false:=decide_eq_false (by omega)
  go_enter Tryz.func39,Tryz.ntmps39
  go_wp2
  all_goals (go_ret2;exact ⟨by rw [HR.out,HG,if_neg h16];rfl,rfl⟩)
def UK:List ByteArray:=[⟨#[]⟩,⟨#[99,111,117,110,116]⟩,⟨#[108,101,97,115,116]⟩,⟨#[109,111,115,116]⟩,⟨#[115,117,109]⟩,⟨#[109,101,97,110]⟩,⟨#[97,116]⟩,⟨#[115,99,97,110]⟩,⟨#[98,117,99,107,101,116,115]⟩]
def AW (n:Nat):ByteArray:=UK.getD n ⟨#[]⟩
theorem GM (n:Nat) (hn:n<=8) (w:World):Calls Tryz.prog 40 #[.int .i64 (n:Int)] w fun e w'=>e=.returned (.string (AW n))/\Below w.heap.size w w':=by
 have hb:=bA (b0 w) (.cells #[.string ⟨#[]⟩,.string ⟨#[99,111,117,110,116]⟩,.string ⟨#[108,101,97,115,116]⟩,.string ⟨#[109,111,115,116]⟩,.string ⟨#[115,117,109]⟩,.string ⟨#[109,101,97,110]⟩,.string ⟨#[97,116]⟩,.string ⟨#[115,99,97,110]⟩,.string ⟨#[98,117,99,107,101,116,115]⟩] 9)
 obtain rfl|rfl|rfl|rfl|rfl|rfl|rfl|rfl|rfl:n=0∨n=1∨n=2∨n=3∨n=4∨n=5∨n=6∨n=7∨n=8:=by omega
 all_goals
  go_enter Tryz.func40,Tryz.ntmps40
  go_wp2
  go_ret
  exact ⟨rfl,hb⟩
def rW:List UInt8->ByteArray->List ByteArray->Option (List ByteArray)
 | [],word,out=>if word.size=0 then none else some (out++[word])
 | b::r,word,out=>if b.toNat<32∨126<b.toNat then none else if b.toNat=32 then (if word.size=0 then none else rW r ⟨#[]⟩ (out++[word])) else rW r (word++⟨#[b]⟩) out
theorem fI (s:ByteArray) (k:Nat) (hk:k<s.size):s.extract k (k+1)=⟨#[s[k]]⟩:=by
 apply ByteArray.ext
 apply Array.ext'
 have h:=F6 s k hk
 simp [h]
theorem UL {t:ByteArray} (h:t.size=0):t.toList=[]:=by
 have h1:t.toList.length=t.size:=by rw [ByteArray.toList_eq];simp
 exact List.eq_nil_of_length_eq_zero (by omega)
theorem UM (w:World) (x:ByteArray):InV (w.alloc (.cells #[.string x] 9)) (some ⟨w.heap.size,0,none⟩) (AC [x]):=by
 intro _
 refine ⟨_,rfl,by simp,fun j hj=>?_⟩
 obtain rfl:j=0:=by simp [AC] at hj;omega
 have h:=(AB (na w #[.string x] 9)).1 0
 simpa [Addr.add,AC] using h
def fJ (B:Nat) (w:World) (r:Option (List ByteArray)) (e:Ending) (w':World):Prop :=
 match r with
 | some ws=>∃v,e=.returned (.tuple #[v,.bool true])/\AX 9 B w' v (AC ws)/\Below w.heap.size w w'
 | none=>e=.returned (.tuple #[.slice none 0 0,.bool false])/\Below w.heap.size w w'
theorem D8 (s:ByteArray) (hs:s.size<=1000000) (w:World):Calls Tryz.prog 36 #[.string s] w (fJ w.heap.size w (rW s.data.toList ⟨#[]⟩ [])):=by
 obtain ⟨R,hR⟩:∃R,R=rW s.data.toList ⟨#[]⟩ []:=⟨_,rfl⟩
 have HR:=AA hR
 rw [<-hR]
 clear hR
 go_enter Tryz.func36,Tryz.ntmps36
 go_wp2_with fail
 go_loopw [4,5,6] (fun v4 v5 v6 wr=>∃(k:Nat) (word:ByteArray) (out:List ByteArray),v5=.string word/\v6=.int .i64 (k:Int)/\k<=s.size/\word.size<=k/\out.length<=k/\Hid (AX 9 w.heap.size wr v4 (AC out))/\Below w.heap.size w wr/\Hid (rW (s.data.toList.drop k) word out=rW s.data.toList ⟨#[]⟩ [])) (fun _ _ v6 _=>s.size-(intOf v6).toNat)
 case atStart=>exact ⟨0,⟨#[]⟩,[],rfl,rfl,by omega,by decide,by simp,AA (AX.nil _ _),b0 w,AA rfl⟩
 case round=>
  obtain ⟨k,word,out,rfl,rfl,hk,hwd,hol,HO,hb,HH⟩:=hrel
  by_cases hp:k<s.size
  ·have e7:decide ((k:Int)<(s.size:Int))=true:=decide_eq_true (by omega)
   have hdrop:=F6 s k hp
   rw [hdrop] at HH
   by_cases hlo:(s[k]'hp).toNat<32
   ·have e8:decide (((s[k]'hp).toNat:Int)<32)=true:=decide_eq_true (by omega)
    have HN:Hid (R=none):=AA (by rw [HR.out,<-HH.out,rW,if_pos (.inl hlo)])
    clear HH hdrop
    go_wp2
    go_ret2
    have hR:=HN.out
    subst hR
    exact ⟨rfl,hb⟩
   ·have e8:decide (((s[k]'hp).toNat:Int)<32)=false:=decide_eq_false (by omega)
    by_cases hhi:126<(s[k]'hp).toNat
    ·have e9:decide ((126:Int)<((s[k]'hp).toNat:Int))=true:=decide_eq_true (by omega)
     have HN:Hid (R=none):=AA (by rw [HR.out,<-HH.out,rW,if_pos (.inr hhi)])
     clear HH hdrop
     go_wp2
     go_ret2
     have hR:=HN.out
     subst hR
     exact ⟨rfl,hb⟩
    ·have e9:decide ((126:Int)<((s[k]'hp).toNat:Int))=false:=decide_eq_false (by omega)
     by_cases hbl:(s[k]'hp).toNat=32
     ·have e10:(((s[k]'hp).toNat:Int)== 32)=true:=by simp;omega
      have e11:decide (((s[k]'hp).toNat:Int)=32)=true:=decide_eq_true (by omega)
      by_cases hw0:word.size=0
      ·have eW:=UL hw0
       have HN:Hid (R=none):=AA (by rw [HR.out,<-HH.out,rW,if_neg (by omega),if_pos hbl,if_pos hw0])
       clear HH hdrop
       go_wp2
       go_ret2
       have hR:=HN.out
       subst hR
       exact ⟨rfl,hb⟩
      ·have eW:=NJ word (by omega)
       have HN:Hid (rW (s.data.toList.drop (k+1)) ⟨#[]⟩ (out++[word])=rW s.data.toList ⟨#[]⟩ []):=AA (by rw [<-HH.out,rW,if_neg (by omega),if_pos hbl,if_neg hw0])
       clear HH hdrop
       have HI:=AA (UM wr word)
       have HO2:=AA (HO.out.lift (bA (b0 _) (.cells #[.string word] 9)))
       have hB:Below w.heap.size w (wr.alloc (.cells #[.string word] 9)):=bA hb _
       go_wp2_with (refine EW rfl _ _ _ rfl 16 Tryz.underlying66 D4 rfl (by decide) w.heap.size _ (AC out) (AC [word]) (some ⟨wr.heap.size,0,none⟩) 1 rfl rfl HO2.out HI.out (F5 _) (by simp only [BG,List.length_cons,List.length_nil];omega) hB.size ?_;intro v' w3 hO3 hlow hsz)
       go_roundw
       case rel=>exact ⟨k+1,⟨#[]⟩,out++[word],rfl,by go_num,by omega,Nat.zero_le _,by simp;omega,AA (by simpa [AC] using hO3),hlow _ hB,HN⟩
       case measure=>simp [intOf];omega
     ·have e10:(((s[k]'hp).toNat:Int)== 32)=false:=by simp;omega
      have e11:decide (((s[k]'hp).toNat:Int)=32)=false:=decide_eq_false (by omega)
      have HN:Hid (rW (s.data.toList.drop (k+1)) (word++⟨#[s[k]'hp]⟩) out=rW s.data.toList ⟨#[]⟩ []):=AA (by rw [<-HH.out,rW,if_neg (by omega),if_neg hbl])
      clear HH hdrop
      go_wp2
      have hsz1:(word++⟨#[s[k]'hp]⟩:ByteArray).size<=k+1:=by
       rw [ByteArray.size_append]
       have:(ByteArray.mk #[s[k]'hp]).size=1:=rfl
       omega
      go_roundw
      case rel=>exact ⟨k+1,word++⟨#[s[k]'hp]⟩,out,by rw [fI s k hp],by go_num,by omega,hsz1,by omega,HO,hb,HN⟩
      case measure=>simp [intOf];omega
  ·have e7:decide ((k:Int)<(s.size:Int))=false:=decide_eq_false (by omega)
   have HN:Hid (R=if word.size=0 then none else some (out++[word])):=AA (by rw [HR.out,<-HH.out,List.drop_eq_nil_of_le (by simp;omega)];rfl)
   clear HH
   by_cases hw0:word.size=0
   ·have eW:=UL hw0
    go_wp2
    go_ret2
    have hR:=HN.out
    rw [if_pos hw0] at hR
    subst hR
    exact ⟨rfl,hb⟩
   ·have eW:=NJ word (by omega)
    have HI:=AA (UM wr word)
    have HO2:=AA (HO.out.lift (bA (b0 _) (.cells #[.string word] 9)))
    have hB:Below w.heap.size w (wr.alloc (.cells #[.string word] 9)):=bA hb _
    go_wp2_with (refine EW rfl _ _ _ rfl 16 Tryz.underlying66 D4 rfl (by decide) w.heap.size _ (AC out) (AC [word]) (some ⟨wr.heap.size,0,none⟩) 1 rfl rfl HO2.out HI.out (F5 _) (by simp only [BG,List.length_cons,List.length_nil];omega) hB.size ?_;intro v' w3 hO3 hlow hsz)
    go_ret2
    have hR:=HN.out
    rw [if_neg hw0] at hR
    subst hR
    exact ⟨_,rfl,by simpa [AC] using hO3,hlow _ hB⟩
def spl:List UInt8->List UInt8->List (List UInt8)
 | acc,[]=>[acc]
 | acc,b::r=>if b=32 then acc::spl [] r else spl (acc++[b]) r
theorem UN:∀(l acc:List UInt8),Lib.indexByte l 32=-1->spl acc l=[acc++l]
 | [],acc,_=>by simp [spl]
 | b::r,acc,h=>by
  have hb:=Lib.indexByte_none h
  have h0:b≠32:=by have:=hb 0;simpa using this
  have hr:Lib.indexByte r 32=-1:=by
   rcases Int.lt_or_le (Lib.indexByte r 32) 0 with h1|h1
   ·have:=Lib.indexByte_ge r 32;omega
   ·obtain ⟨o,ho⟩:=Int.eq_ofNat_of_zero_le h1
    have:=(Lib.indexByte_some ho).1
    exact absurd this (by have:=hb (o+1);simpa using this)
  rw [spl,if_neg h0,UN r _ hr]
  simp
theorem UO:∀(l acc:List UInt8) (i:Nat),Lib.indexByte l 32=i->spl acc l=(acc++l.take i)::spl [] (l.drop (i+1))
 | [],acc,i,h=>by have:=(Lib.indexByte_some h).1;simp at this
 | b::r,acc,i,h=>by
  obtain ⟨h1,h2⟩:=Lib.indexByte_some h
  cases i with
  | zero=>
   have hb:b=32:=by simpa using h1
   rw [spl,if_pos hb]
   simp
  | succ i=>
   have hb:b≠32:=by have:=h2 0 (by omega);simpa using this
   have hr:Lib.indexByte r 32=i:=by
    have g1:r[i]?=some 32:=by simpa using h1
    rcases Int.lt_or_le (Lib.indexByte r 32) 0 with q|q
    ·have:=Lib.indexByte_ge r 32
     exact absurd g1 (Lib.indexByte_none (by omega) i)
    ·obtain ⟨o,ho⟩:=Int.eq_ofNat_of_zero_le q
     obtain ⟨a1,a2⟩:=Lib.indexByte_some ho
     rcases Nat.lt_trichotomy o i with q1|q1|q1
     ·exact absurd a1 (by have:=h2 (o+1) (by omega);simpa using this)
     ·rw [ho,q1]
     ·exact absurd g1 (a2 i q1)
   rw [spl,if_neg hb,UO r _ i hr]
   simp
theorem fL:∀(n:Nat) (l:List UInt8),l.length<=n->Lib.splitK [32] 0 (Lib.count l [32]) l=spl [] l:=by
 intro n
 induction n with
 | zero=>
  intro l h
  obtain rfl:l=[]:=List.eq_nil_of_length_eq_zero (by omega)
  decide
 | succ n ih=>
  intro l h
  rcases Int.lt_or_le (Lib.indexByte l 32) 0 with q|q
  ·have hm:Lib.indexByte l 32=-1:=by have:=Lib.indexByte_ge l 32;omega
   rw [Lib.count_miss (by rw [Lib.index_one,hm]),UN l [] hm]
   rfl
  ·obtain ⟨i,hi⟩:=Int.eq_ofNat_of_zero_le q
   have hx:Lib.index l [32]=(i:Int):=by rw [Lib.index_one,hi]
   have hlt:i<l.length:=by
    have:=(Lib.indexByte_some hi).1
    exact (List.getElem?_eq_some_iff.1 this).1
   rw [Lib.count_hit (by simp) hx,UO l [] i hi,Nat.add_comm]
   unfold Lib.splitK
   rw [if_neg (by rw [hx];simp),hx]
   simp only [List.length_cons,List.length_nil,Nat.zero_add,Int.toNat_natCast,Nat.add_zero,List.nil_append]
   rw [ih (l.drop (i+1)) (by simp;omega)]
def toB (l:List UInt8):ByteArray:=⟨l.toArray⟩
theorem PU (s:ByteArray):toB s.data.toList=s:=by unfold toB;simp
theorem fM (s:ByteArray):DE s=(spl [] s.data.toList).map toB:=by
 have h:=Lib.splitB_data ⟨#[32]⟩ 0 (Lib.countB s ⟨#[32]⟩) s
 have h2:Lib.splitK (ByteArray.mk #[32]).data.toList 0 (Lib.countB s ⟨#[32]⟩) s.data.toList=spl [] s.data.toList:=fL _ _ (Nat.le_refl _)
 rw [h2] at h
 rw [<-h,List.map_map]
 unfold DE
 conv=>lhs;rw [<-List.map_id (Lib.splitB _ _ _ _)]
 apply List.map_congr_left
 intro x _
 exact (PU x).symm
theorem LF:∀(l:List UInt8) (word:ByteArray) (out:List ByteArray),rW l word out=if CT l=true/\(∀p ∈ spl word.data.toList l,p≠[]) then some (out++(spl word.data.toList l).map toB) else none
 | [],word,out=>by
  simp only [rW,spl,CT,List.all_nil,true_and,List.mem_singleton,forall_eq,List.map_cons,List.map_nil,PU]
  have hz:word.data.toList.length=word.size:=by simp
  by_cases h:word.size=0
  ·rw [if_pos h,if_neg]
   simp only [ne_eq,Classical.not_not]
   exact List.eq_nil_of_length_eq_zero (by omega)
  ·rw [if_neg h,if_pos]
   intro e
   rw [e] at hz
   simp at hz
   omega
 | b::r,word,out=>by
  have hz:word.data.toList.length=word.size:=by simp
  simp only [rW]
  by_cases hp:b.toNat<32∨126<b.toNat
  ·rw [if_pos hp,if_neg]
   simp only [CT,List.all_cons,Bool.and_eq_true,decide_eq_true_eq]
   omega
  ·rw [if_neg hp]
   have hpl:CT (b::r)=CT r:=by
    simp only [CT,List.all_cons]
    rw [decide_eq_true (by omega),decide_eq_true (by omega)]
    simp
   rw [hpl]
   by_cases hb:b.toNat=32
   ·have hb2:b=32:=UInt8.toNat.inj hb
    rw [if_pos hb,spl,if_pos hb2]
    by_cases h:word.size=0
    ·rw [if_pos h,if_neg]
     rintro ⟨_,h2⟩
     exact h2 word.data.toList (by simp) (List.eq_nil_of_length_eq_zero (by omega))
    ·rw [if_neg h,LF r ⟨#[]⟩ (out++[word])]
     have hne:word.data.toList≠[]:=by intro e;rw [e] at hz;simp at hz;omega
     have e1:(ByteArray.mk #[]).data.toList=[]:=rfl
     rw [e1]
     simp only [List.mem_cons,forall_eq_or_imp,List.map_cons,PU]
     by_cases hc:CT r=true/\∀p ∈ spl [] r,p≠[]
     ·rw [if_pos hc,if_pos ⟨hc.1,hne,hc.2⟩]
      simp
     ·rw [if_neg hc,if_neg fun x=>hc ⟨x.1,x.2.2⟩]
   ·have hb2:b≠32:=fun e=>hb (by rw [e];rfl)
    rw [if_neg hb,spl,if_neg hb2,LF r _ out]
    have e1:(word++⟨#[b]⟩:ByteArray).data.toList=word.data.toList++[b]:=by simp
    rw [e1]
def LG (s:ByteArray):Option Cm:=match rW s.data.toList ⟨#[]⟩ [] with|some ws=>J3 ws|none=>none
theorem PV:∀(l:List ByteArray) (k:Nat),0<=B8 l ⟨#[]⟩ k↔∃x ∈ l,x=⟨#[]⟩
 | [],k=>by simp [B8]
 | s::l,k=>by
  simp only [B8]
  by_cases h:(⟨#[]⟩:ByteArray)=s
  ·rw [if_pos h]
   constructor
   ·intro _;exact ⟨s,by simp,h.symm⟩
   ·intro _;omega
  ·rw [if_neg h,PV l (k+1)]
   constructor
   ·rintro ⟨x,hx,e⟩;exact ⟨x,by simp [hx],e⟩
   ·rintro ⟨x,hx,e⟩
    rcases List.mem_cons.1 hx with rfl|hx
    ·exact absurd e.symm h
    ·exact ⟨x,hx,e⟩
theorem GN (s:ByteArray):LG s=AZ s:=by
 unfold LG AZ
 rw [LF,fM]
 have e1:(ByteArray.mk #[]).data.toList=[]:=rfl
 rw [e1]
 by_cases hp:CT s.data.toList=true
 ·rw [if_pos hp]
  by_cases hq:∀p ∈ spl [] s.data.toList,p≠[]
  ·rw [if_pos ⟨hp,hq⟩,if_neg]
   ·simp only [List.nil_append]
    exact eQ _
   ·rw [PV]
    rintro ⟨x,hx,rfl⟩
    obtain ⟨p,hp1,hp2⟩:=List.mem_map.1 hx
    refine hq p hp1 ?_
    have:=congrArg (fun z:ByteArray=>z.data.toList) hp2
    simpa [toB] using this
  ·rw [if_neg fun x=>hq x.2,if_pos]
   rw [PV]
   have:∃p ∈ spl [] s.data.toList,p=[]:=by
    apply Classical.byContradiction
    intro hn
    exact hq fun p hp e=>hn ⟨p,hp,e⟩
   obtain ⟨p,hp1,rfl⟩:=this
   exact ⟨toB [],List.mem_map.2 ⟨[],hp1,rfl⟩,rfl⟩
 ·rw [if_neg hp,if_neg fun x=>hp x.1]
theorem fN:(Tryz.prog.info? 2).map (fun i=>(i.zero,i.size,i.bytes))=some (some (.int .i64 0),1,8):=by kernel_rfl
def fO (B:Nat) (w:World) (r:Option (List Int)) (e:Ending) (w':World):Prop :=
 match r with
 | some xs=>∃v,e=.returned (.tuple #[v,.bool true])/\AX 2 B w' v (AH xs)/\Below w.heap.size w w'
 | none=>e=.returned (.tuple #[.slice none 0 0,.bool false])/\Below w.heap.size w w'
theorem fP (w:World) (x:Int):InV (w.alloc (.cells #[.int .i64 x] 2)) (some ⟨w.heap.size,0,none⟩) (AH [x]):=by
 intro _
 refine ⟨_,rfl,by simp,fun j hj=>?_⟩
 obtain rfl:j=0:=by simp [AH] at hj;omega
 have h:=(AB (na w #[.int .i64 x] 2)).1 0
 simpa [Addr.add,AH] using h
theorem UP (l:List Int):∀v ∈ AH l,v.oneCell'=true:=by
 intro v hv
 obtain ⟨x,_,rfl⟩:=List.mem_map.1 hv
 rfl
theorem GO (A:Option Addr) (c:Nat) (ws:List ByteArray) (hl:ws.length<=1000000) (hz:∀s ∈ ws,s.size<=1000000) (w:World) (hr:InV w A (AC ws)):Calls Tryz.prog 37 #[.slice A ws.length c] w (fO w.heap.size w (AL ws)):=by
 obtain ⟨R,hR⟩:∃R,R=AL ws:=⟨_,rfl⟩
 have HR:=AA hR
 have HV:=AA hr
 have HZ:=AA hz
 rw [<-hR]
 clear hR hr hz
 go_enter Tryz.func37,Tryz.ntmps37
 go_wp2_with fail
 go_loopw [4,5] (fun v4 v5 wr=>∃(k:Nat) (acc:List Int),v5=.int .i64 (k:Int)/\k<=ws.length/\acc.length<=k/\Hid (AX 2 w.heap.size wr v4 (AH acc))/\Below w.heap.size w wr/\Hid (AL ws=(AL (ws.drop k)).map (acc++·))) (fun _ v5 _=>ws.length-(intOf v5).toNat)
 case atStart=>exact ⟨0,[],rfl,by omega,by simp,AA (AX.nil _ _),b0 w,AA (by simp)⟩
 case round=>
  obtain ⟨k,acc,rfl,hk,ha,HO,hb,HH⟩:=hrel
  by_cases hp:k<ws.length
  ·have e7:decide ((k:Int)<(ws.length:Int))=true:=decide_eq_true (by omega)
   obtain ⟨ad,rfl,-,hc⟩:=(HV.out.below hb) (by rw [BG];omega)
   have q1:=hc k (by rw [BG];omega)
   have e1:(AC ws)[k]'(by rw [BG];omega)=.string ws[k]:=by simp [AC]
   rw [e1] at q1
   have hdrop:ws.drop k=ws[k]::ws.drop (k+1):=List.drop_eq_getElem_cons hp
   have hsz:=HZ.out ws[k] (List.getElem_mem hp)
   rw [hdrop] at HH
   obtain ⟨s,hs⟩:∃s,s=ws[k]:=⟨_,rfl⟩
   rw [<-hs] at q1 hsz HH
   clear hc e1 hs hdrop
   have cN:=fun W=>UG s hsz W
   rw [UI] at cN
   cases hn:AS s with
   | none=>
    rw [hn] at cN
    have HN:Hid (R=none):=AA (by rw [HR.out,HH.out,AL,hn];rfl)
    clear HH hn
    simp only [IZ] at cN
    go_wp2_with fail
    refine (cN _).mono ?_
    rintro e w4 ⟨rfl,rfl⟩
    go_wp2
    go_ret2
    have hR:=HN.out
    subst hR
    exact ⟨rfl,hb⟩
   | some x=>
    rw [hn] at cN
    have HN:Hid (AL ws=(AL (ws.drop (k+1))).map ((acc++[x])++·)):=AA (by
     rw [HH.out,AL,hn]
     simp only
     cases AL (ws.drop (k+1)) with
     | none=>rfl
     | some ys=>simp)
    clear HH hn
    simp only [IZ] at cN
    have HI:=AA (fP wr x)
    have HO2:=AA (HO.out.lift (bA (b0 _) (.cells #[.int .i64 x] 2)))
    have hB:Below w.heap.size w (wr.alloc (.cells #[.int .i64 x] 2)):=bA hb _
    go_wp2_with fail
    refine (cN _).mono ?_
    rintro e w4 ⟨rfl,rfl⟩
    go_wp2_with (refine EW rfl _ _ _ rfl 8 Tryz.underlying73 fN rfl (by decide) w.heap.size _ (AH acc) (AH [x]) (some ⟨_,0,none⟩) 1 rfl rfl HO2.out HI.out (UP _) (by simp only [BL,List.length_cons,List.length_nil];omega) hB.size ?_;intro v' w3 hO3 hlow hsz)
    go_roundw
    case rel=>exact ⟨k+1,acc++[x],by go_num,by omega,by simp;omega,AA (by simpa [AH] using hO3),hlow _ hB,HN⟩
    case measure=>simp [intOf];omega
  ·have e7:decide ((k:Int)<(ws.length:Int))=false:=decide_eq_false (by omega)
   have HN:Hid (R=some acc):=AA (by rw [HR.out,HH.out,List.drop_eq_nil_of_le (by omega)];simp [AL])
   clear HH
   go_wp2
   go_ret2
   have hR:=HN.out
   subst hR
   exact ⟨_,rfl,HO.out,hb⟩
def RPq (r:Option Cm) (w:World) (e:Ending) (w':World):Prop :=
 match r with
 | some c=>∃v,e=.returned (.tuple #[v,.bool true])/\BI w.heap.size w' v c/\Below w.heap.size w w'
 | none=>∃Y:Array Value,e=.returned (.tuple #[.agg Y,.bool false])/\Y.size=19/\Y.all (·.oneCell')=true/\Below w.heap.size w w'
theorem UQ {o:Nat} {v:Value} {Z:Array Value} {tmps:Array Value} {w:World} (hZ:Z.size=19) (h1:w.heap[o]?=some (.cells Z 48 (0,0)))
  (t2:tmps[2]?=some (.pointer (some ⟨o,0,none⟩))) (t3:tmps[3]?=some v):(results Tryz.f11 tmps).run Tryz.prog w=.ok (.tuple #[.agg Z,v]) w:=by
 have e1:=F8 h1 hZ
 simp [results,Tryz.results11,t2,t3,asAddr,e1]
theorem BU {tmps:Array Value} {w W:World} {Y Z:Array Value} {R:Option Cm} (t2:tmps[2]?=some (.pointer (some ⟨w.heap.size,0,none⟩))) (t3:tmps[3]?=some (.bool false))
  (fr:W.heap[w.heap.size]?=some (.cells Z 48 (0,0))) (hY:Y.size=19) (hb:Below w.heap.size w W) (hR:R=none) (h1:Y.all (·.oneCell')=true:=by first|assumption|exact C2) :
  bodyPost Tryz.prog Tryz.f11 (RPq R w) .ret { tmps:=tmps,defers:=[] } (setRow W w.heap.size Y):=by
 generalize hT:setRow W w.heap.size Y=w4
 obtain ⟨hx4,f4⟩:=AK (b0 _) fr hT
 refine bodyPost_ret (v:=.tuple #[.agg Y,.bool false]) (UQ hY f4 t2 t3) rfl ?_
 subst hR
 exact ⟨_,rfl,hY,h1,bX hb hx4 (Nat.le_refl _)⟩
theorem EQ {tmps:Array Value} {w W:World} {Y Z:Array Value} {R:Option Cm} {c:Cm} (t2:tmps[2]?=some (.pointer (some ⟨w.heap.size,0,none⟩))) (t3:tmps[3]?=some (.bool true))
  (fr:W.heap[w.heap.size]?=some (.cells Z 48 (0,0))) (hY:Y.size=19) (hb:Below w.heap.size w W) (hv:BI w.heap.size W (.agg Y) c) (hR:R=some c) :
  bodyPost Tryz.prog Tryz.f11 (RPq R w) .ret { tmps:=tmps,defers:=[] } (setRow W w.heap.size Y):=by
 generalize hT:setRow W w.heap.size Y=w4
 obtain ⟨hx4,f4⟩:=AK (b0 _) fr hT
 refine bodyPost_ret (v:=.tuple #[.agg Y,.bool true]) (UQ hY f4 t2 t3) rfl ?_
 subst hR
 exact ⟨_,rfl,hv.exc hx4 fr (by decide) (by decide),bX hb hx4 (Nat.le_refl _)⟩
theorem C3 (w:World):(Instr.build 48 #[]).run Tryz.prog w=.ok (.agg AD) w:=by kernel_rfl
theorem fQ (s:ByteArray) (hs:s.size<=1000000) (h:rW s.data.toList ⟨#[]⟩ []=none) (w:World):Calls Tryz.prog 11 #[.string s] w (RPq none w):=by
 have c0:=D8 s hs (w.alloc (.cells AD 48))
 rw [h] at c0
 obtain ⟨R,hR⟩:∃R:Option Cm,R=none:=⟨_,rfl⟩
 rw [<-hR]
 have HR:=AA hR
 clear hR h
 have f1:=na w AD 48
 have hb1:=bA (b0 w) (.cells AD 48)
 go_enter Tryz.func11,Tryz.ntmps11
 go_wp2_with fail
 refine c0.mono ?_
 rintro e w2 ⟨rfl,hb2⟩
 have f2:=kp hb2 f1
 have HB:=AA (bB hb1 hb2)
 have hz:=BF
 have h1:=C2
 clear c0 hb1 hb2 f1
 go_wp2_with (first|(refine BC rfl _ _ rfl (.agg AD) #[] (by simp [Act.eval]) (C3 _) ?_;simp only [Act.put,lA1,lZ1,lS1])|(refine AG rfl _ _ _ rfl w.heap.size 48 _ AD rfl rfl f2 (by rw [AE,hz]) rfl h1 ?_;simp only [Act.put]))
 exact BU rfl rfl f2 BF HB.out HR.out
theorem PW (k:Int) (w:World):(Instr.build 29 #[(0,.int .i64 k)]).run Tryz.prog w=.ok (.agg (OpV.cs ⟨k,0,⟨#[]⟩,0,0,0,none,0,0,0,⟨#[]⟩,0,0,0,0,⟨#[]⟩,0,0⟩)) w:=by kernel_rfl
theorem PY (k:Int) (w:World):(Instr.build 48 #[(0,.int .i64 1),(1,.agg (OpV.cs ⟨k,0,⟨#[]⟩,0,0,0,none,0,0,0,⟨#[]⟩,0,0,0,0,⟨#[]⟩,0,0⟩))]).run Tryz.prog w=.ok (.agg (AI 1 ⟨k,0,⟨#[]⟩,0,0,0,none,0,0,0,⟨#[]⟩,0,0,0,0,⟨#[]⟩,0,0⟩ 0 none 0 0)) w:=by kernel_rfl
theorem CJ (a:Addr):a.add 0=a:=by unfold Addr.add;rw [if_pos rfl]
theorem FE {a:ByteArray} (l:List UInt8) (h:a=⟨l.toArray⟩):(a.toList== l)=true:=by
 subst h
 rw [ByteArray.toList_eq]
 simp
theorem BQ {a:ByteArray} (l:List UInt8) (h:a≠⟨l.toArray⟩):(a.toList== l)=false:=by
 rw [beq_eq_false_iff_ne]
 intro e
 apply h
 apply ByteArray.ext
 rw [ByteArray.toList_eq] at e
 show a.data=l.toArray
 rw [<-e]
theorem PZ {a:ByteArray} (l:List UInt8) (h:a=⟨l.toArray⟩):(l== a.toList)=true:=by rw [beq_iff_eq,<-beq_iff_eq.1 (FE l h)]
theorem P3 {a:ByteArray} (l:List UInt8) (h:a≠⟨l.toArray⟩):(l== a.toList)=false:=by
 rw [beq_eq_false_iff_ne]
 exact fun e=>(beq_eq_false_iff_ne.1 (BQ l h)) e.symm
theorem P4 (K:Nat) (hd:ByteArray) (hK:(K=2/\hd=CV)∨(K=3/\hd=CW)∨(K=4/\hd=CX)) (l:List ByteArray) (s:ByteArray) (hs:s.size<=1000000) (h:rW s.data.toList ⟨#[]⟩ []=some (hd::l)) (w:World) :
  Calls Tryz.prog 11 #[.string s] w (RPq (if l=[] then some { ok:=(K:Int) } else none) w):=by
 have c0:=D8 s hs (w.alloc (.cells AD 48))
 rw [h] at c0
 obtain ⟨R,hR⟩:∃R:Option Cm,R=if l=[] then some { ok:=(K:Int) } else none:=⟨_,rfl⟩
 rw [<-hR]
 have HR:=AA hR
 clear hR h
 have f1:=na w AD 48
 have hb1:=bA (b0 w) (.cells AD 48)
 obtain ⟨x2,hx2⟩:∃b:Bool,b=decide (K=2):=⟨_,rfl⟩
 obtain ⟨x3,hx3⟩:∃b:Bool,b=decide (K=3):=⟨_,rfl⟩
 obtain ⟨x4,hx4⟩:∃b:Bool,b=decide (K=4):=⟨_,rfl⟩
 have a2:(hd.toList== ([115,121,110,99]:List UInt8))=x2:=by rcases hK with ⟨rfl,rfl⟩|⟨rfl,rfl⟩|⟨rfl,rfl⟩ <;> rw [hx2] <;> first|exact FE _ rfl|exact BQ _ (by decide)
 have b2:(([115,121,110,99]:List UInt8)== hd.toList)=x2:=by rcases hK with ⟨rfl,rfl⟩|⟨rfl,rfl⟩|⟨rfl,rfl⟩ <;> rw [hx2] <;> first|exact PZ _ rfl|exact P3 _ (by decide)
 have a3:(hd.toList== ([102,108,117,115,104]:List UInt8))=x3:=by rcases hK with ⟨rfl,rfl⟩|⟨rfl,rfl⟩|⟨rfl,rfl⟩ <;> rw [hx3] <;> first|exact FE _ rfl|exact BQ _ (by decide)
 have b3:(([102,108,117,115,104]:List UInt8)== hd.toList)=x3:=by rcases hK with ⟨rfl,rfl⟩|⟨rfl,rfl⟩|⟨rfl,rfl⟩ <;> rw [hx3] <;> first|exact PZ _ rfl|exact P3 _ (by decide)
 have a4:(hd.toList== ([99,111,109,112,97,99,116]:List UInt8))=x4:=by rcases hK with ⟨rfl,rfl⟩|⟨rfl,rfl⟩|⟨rfl,rfl⟩ <;> rw [hx4] <;> first|exact FE _ rfl|exact BQ _ (by decide)
 have b4:(([99,111,109,112,97,99,116]:List UInt8)== hd.toList)=x4:=by rcases hK with ⟨rfl,rfl⟩|⟨rfl,rfl⟩|⟨rfl,rfl⟩ <;> rw [hx4] <;> first|exact PZ _ rfl|exact P3 _ (by decide)
 have hK2:K=2∨K=3∨K=4:=by omega
 clear hK
 rcases hK2 with rfl|rfl|rfl
 all_goals simp only [decide_true,decide_false,show decide ((2:Nat)=3)=false from rfl,show decide ((2:Nat)=4)=false from rfl,show decide ((3:Nat)=2)=false from rfl,show decide ((3:Nat)=4)=false from rfl,show decide ((4:Nat)=2)=false from rfl,show decide ((4:Nat)=3)=false from rfl] at hx2 hx3 hx4
 all_goals subst hx2 hx3 hx4
 ·go_enter Tryz.func11,Tryz.ntmps11
  go_wp2_with fail
  refine c0.mono ?_
  rintro e w2 ⟨v,rfl,hO,hb2⟩
  obtain ⟨A,c,rfl,hr⟩:=hO.cr
  have f2:=kp hb2 f1
  have hb3:=bA (b0 w2) (.cells #[.string ⟨#[]⟩,.string ⟨#[]⟩,.string ⟨#[115,121,110,99]⟩,.string ⟨#[102,108,117,115,104]⟩,.string ⟨#[99,111,109,112,97,99,116]⟩] 9)
  have f3:=kp hb3 f2
  have fK:=na w2 #[.string ⟨#[]⟩,.string ⟨#[]⟩,.string ⟨#[115,121,110,99]⟩,.string ⟨#[102,108,117,115,104]⟩,.string ⟨#[99,111,109,112,97,99,116]⟩] 9
  have HB:=AA (bB (bB hb1 hb2) hb3)
  have hz:=BF
  have h1:=C2
  rw [BG] at *
  obtain ⟨ad,rfl,hal,hc⟩:=hr.inV (by simp [AC])
  have q0:=hc 0 (by simp [AC])
  simp only [AC,List.map_cons,List.getElem_cons_zero,CJ] at q0
  obtain ⟨X,hX⟩:∃X,X=OpV.cs ⟨2,0,⟨#[]⟩,0,0,0,none,0,0,0,⟨#[]⟩,0,0,0,0,⟨#[]⟩,0,0⟩:=⟨_,rfl⟩
  obtain ⟨Y,hY⟩:∃Y,Y=AI 1 ⟨2,0,⟨#[]⟩,0,0,0,none,0,0,0,⟨#[]⟩,0,0,0,0,⟨#[]⟩,0,0⟩ 0 none 0 0:=⟨_,rfl⟩
  have bX:=PW 2
  have bY:=PY 2
  have hYs:Y.size=19:=by rw [hY];rfl
  have hY1:Y.all (·.oneCell')=true:=by rw [hY];exact BB _ _ _ _ _ _
  have HC:Hid (∀W,BI w.heap.size W (.agg Y) { ok:=2 }):=AA (by rw [hY];exact fun W=>⟨none,0,none,0,rfl,RS.nil _,RS.nil _⟩)
  rw [<-hX] at bX bY
  rw [<-hY] at bY
  clear c0 hb1 hb2 hb3 hO hc hr hX hY f2
  generalize hW3:w2.alloc (.cells #[.string ⟨#[]⟩,.string ⟨#[]⟩,.string ⟨#[115,121,110,99]⟩,.string ⟨#[102,108,117,115,104]⟩,.string ⟨#[99,111,109,112,97,99,116]⟩] 9)=w3 at *
  go_wp2_with fail
  try rw [hW3]
  go_loopw [8] (fun v8 wr=>∃k:Nat,v8=.int .i64 (k:Int)/\wr=w3/\2<=k/\k<=2) (fun v8 _=>5-(intOf v8).toNat)
  case atStart=>exact ⟨2,rfl,rfl,by omega,by omega⟩
  case round=>
   obtain ⟨k,rfl,rfl,hk1,hk2⟩:=hrel
   obtain ⟨zk1,zk2,zk3⟩:=AB fK
   obtain rfl:k=2:=by omega
   ·cases l with
    | nil=>
     go_wp2_with (first|(refine BC rfl _ _ rfl (.agg X) #[(0,.int .i64 2)] (by simp [Act.eval]) (bX _) ?_;simp only [Act.put,lA1,lZ1,lS1])|(refine BC rfl _ _ rfl (.agg Y) #[(0,.int .i64 1),(1,.agg X)] (by simp [Act.eval]) (bY _) ?_;simp only [Act.put,lA1,lZ1,lS1])|(refine AG rfl _ _ _ rfl w.heap.size 48 _ Y rfl rfl f3 (by rw [AE,hYs]) (by rw [hYs];rfl) hY1 ?_;simp only [Act.put]))
     exact EQ rfl rfl f3 hYs HB.out (HC.out _) (by rw [HR.out];rfl)
    | cons y l=>
     go_wp2_with (first|(refine BC rfl _ _ rfl (.agg X) #[(0,.int .i64 2)] (by simp [Act.eval]) (bX _) ?_;simp only [Act.put,lA1,lZ1,lS1])|(refine BC rfl _ _ rfl (.agg Y) #[(0,.int .i64 1),(1,.agg X)] (by simp [Act.eval]) (bY _) ?_;simp only [Act.put,lA1,lZ1,lS1])|(refine AG rfl _ _ _ rfl w.heap.size 48 _ Y rfl rfl f3 (by rw [AE,hYs]) (by rw [hYs];rfl) hY1 ?_;simp only [Act.put]))
     exact BU rfl rfl f3 hYs HB.out (by rw [HR.out];rfl)
 ·go_enter Tryz.func11,Tryz.ntmps11
  go_wp2_with fail
  refine c0.mono ?_
  rintro e w2 ⟨v,rfl,hO,hb2⟩
  obtain ⟨A,c,rfl,hr⟩:=hO.cr
  have f2:=kp hb2 f1
  have hb3:=bA (b0 w2) (.cells #[.string ⟨#[]⟩,.string ⟨#[]⟩,.string ⟨#[115,121,110,99]⟩,.string ⟨#[102,108,117,115,104]⟩,.string ⟨#[99,111,109,112,97,99,116]⟩] 9)
  have f3:=kp hb3 f2
  have fK:=na w2 #[.string ⟨#[]⟩,.string ⟨#[]⟩,.string ⟨#[115,121,110,99]⟩,.string ⟨#[102,108,117,115,104]⟩,.string ⟨#[99,111,109,112,97,99,116]⟩] 9
  have HB:=AA (bB (bB hb1 hb2) hb3)
  have hz:=BF
  have h1:=C2
  rw [BG] at *
  obtain ⟨ad,rfl,hal,hc⟩:=hr.inV (by simp [AC])
  have q0:=hc 0 (by simp [AC])
  simp only [AC,List.map_cons,List.getElem_cons_zero,CJ] at q0
  obtain ⟨X,hX⟩:∃X,X=OpV.cs ⟨3,0,⟨#[]⟩,0,0,0,none,0,0,0,⟨#[]⟩,0,0,0,0,⟨#[]⟩,0,0⟩:=⟨_,rfl⟩
  obtain ⟨Y,hY⟩:∃Y,Y=AI 1 ⟨3,0,⟨#[]⟩,0,0,0,none,0,0,0,⟨#[]⟩,0,0,0,0,⟨#[]⟩,0,0⟩ 0 none 0 0:=⟨_,rfl⟩
  have bX:=PW 3
  have bY:=PY 3
  have hYs:Y.size=19:=by rw [hY];rfl
  have hY1:Y.all (·.oneCell')=true:=by rw [hY];exact BB _ _ _ _ _ _
  have HC:Hid (∀W,BI w.heap.size W (.agg Y) { ok:=3 }):=AA (by rw [hY];exact fun W=>⟨none,0,none,0,rfl,RS.nil _,RS.nil _⟩)
  rw [<-hX] at bX bY
  rw [<-hY] at bY
  clear c0 hb1 hb2 hb3 hO hc hr hX hY f2
  generalize hW3:w2.alloc (.cells #[.string ⟨#[]⟩,.string ⟨#[]⟩,.string ⟨#[115,121,110,99]⟩,.string ⟨#[102,108,117,115,104]⟩,.string ⟨#[99,111,109,112,97,99,116]⟩] 9)=w3 at *
  go_wp2_with fail
  try rw [hW3]
  go_loopw [8] (fun v8 wr=>∃k:Nat,v8=.int .i64 (k:Int)/\wr=w3/\2<=k/\k<=3) (fun v8 _=>5-(intOf v8).toNat)
  case atStart=>exact ⟨2,rfl,rfl,by omega,by omega⟩
  case round=>
   obtain ⟨k,rfl,rfl,hk1,hk2⟩:=hrel
   obtain ⟨zk1,zk2,zk3⟩:=AB fK
   obtain rfl|rfl:k=2∨k=3:=by omega
   ·go_wp2
    go_roundw
    case rel=>exact ⟨3,by go_num,by trivial,by omega,by omega⟩
    case measure=>simp [intOf]
   ·cases l with
    | nil=>
     go_wp2_with (first|(refine BC rfl _ _ rfl (.agg X) #[(0,.int .i64 3)] (by simp [Act.eval]) (bX _) ?_;simp only [Act.put,lA1,lZ1,lS1])|(refine BC rfl _ _ rfl (.agg Y) #[(0,.int .i64 1),(1,.agg X)] (by simp [Act.eval]) (bY _) ?_;simp only [Act.put,lA1,lZ1,lS1])|(refine AG rfl _ _ _ rfl w.heap.size 48 _ Y rfl rfl f3 (by rw [AE,hYs]) (by rw [hYs];rfl) hY1 ?_;simp only [Act.put]))
     exact EQ rfl rfl f3 hYs HB.out (HC.out _) (by rw [HR.out];rfl)
    | cons y l=>
     go_wp2_with (first|(refine BC rfl _ _ rfl (.agg X) #[(0,.int .i64 3)] (by simp [Act.eval]) (bX _) ?_;simp only [Act.put,lA1,lZ1,lS1])|(refine BC rfl _ _ rfl (.agg Y) #[(0,.int .i64 1),(1,.agg X)] (by simp [Act.eval]) (bY _) ?_;simp only [Act.put,lA1,lZ1,lS1])|(refine AG rfl _ _ _ rfl w.heap.size 48 _ Y rfl rfl f3 (by rw [AE,hYs]) (by rw [hYs];rfl) hY1 ?_;simp only [Act.put]))
     exact BU rfl rfl f3 hYs HB.out (by rw [HR.out];rfl)
 ·go_enter Tryz.func11,Tryz.ntmps11
  go_wp2_with fail
  refine c0.mono ?_
  rintro e w2 ⟨v,rfl,hO,hb2⟩
  obtain ⟨A,c,rfl,hr⟩:=hO.cr
  have f2:=kp hb2 f1
  have hb3:=bA (b0 w2) (.cells #[.string ⟨#[]⟩,.string ⟨#[]⟩,.string ⟨#[115,121,110,99]⟩,.string ⟨#[102,108,117,115,104]⟩,.string ⟨#[99,111,109,112,97,99,116]⟩] 9)
  have f3:=kp hb3 f2
  have fK:=na w2 #[.string ⟨#[]⟩,.string ⟨#[]⟩,.string ⟨#[115,121,110,99]⟩,.string ⟨#[102,108,117,115,104]⟩,.string ⟨#[99,111,109,112,97,99,116]⟩] 9
  have HB:=AA (bB (bB hb1 hb2) hb3)
  have hz:=BF
  have h1:=C2
  rw [BG] at *
  obtain ⟨ad,rfl,hal,hc⟩:=hr.inV (by simp [AC])
  have q0:=hc 0 (by simp [AC])
  simp only [AC,List.map_cons,List.getElem_cons_zero,CJ] at q0
  obtain ⟨X,hX⟩:∃X,X=OpV.cs ⟨4,0,⟨#[]⟩,0,0,0,none,0,0,0,⟨#[]⟩,0,0,0,0,⟨#[]⟩,0,0⟩:=⟨_,rfl⟩
  obtain ⟨Y,hY⟩:∃Y,Y=AI 1 ⟨4,0,⟨#[]⟩,0,0,0,none,0,0,0,⟨#[]⟩,0,0,0,0,⟨#[]⟩,0,0⟩ 0 none 0 0:=⟨_,rfl⟩
  have bX:=PW 4
  have bY:=PY 4
  have hYs:Y.size=19:=by rw [hY];rfl
  have hY1:Y.all (·.oneCell')=true:=by rw [hY];exact BB _ _ _ _ _ _
  have HC:Hid (∀W,BI w.heap.size W (.agg Y) { ok:=4 }):=AA (by rw [hY];exact fun W=>⟨none,0,none,0,rfl,RS.nil _,RS.nil _⟩)
  rw [<-hX] at bX bY
  rw [<-hY] at bY
  clear c0 hb1 hb2 hb3 hO hc hr hX hY f2
  generalize hW3:w2.alloc (.cells #[.string ⟨#[]⟩,.string ⟨#[]⟩,.string ⟨#[115,121,110,99]⟩,.string ⟨#[102,108,117,115,104]⟩,.string ⟨#[99,111,109,112,97,99,116]⟩] 9)=w3 at *
  go_wp2_with fail
  try rw [hW3]
  go_loopw [8] (fun v8 wr=>∃k:Nat,v8=.int .i64 (k:Int)/\wr=w3/\2<=k/\k<=4) (fun v8 _=>5-(intOf v8).toNat)
  case atStart=>exact ⟨2,rfl,rfl,by omega,by omega⟩
  case round=>
   obtain ⟨k,rfl,rfl,hk1,hk2⟩:=hrel
   obtain ⟨zk1,zk2,zk3⟩:=AB fK
   obtain rfl|rfl|rfl:k=2∨k=3∨k=4:=by omega
   ·go_wp2
    go_roundw
    case rel=>exact ⟨3,by go_num,by trivial,by omega,by omega⟩
    case measure=>simp [intOf]
   ·go_wp2
    go_roundw
    case rel=>exact ⟨4,by go_num,by trivial,by omega,by omega⟩
    case measure=>simp [intOf]
   ·cases l with
    | nil=>
     go_wp2_with (first|(refine BC rfl _ _ rfl (.agg X) #[(0,.int .i64 4)] (by simp [Act.eval]) (bX _) ?_;simp only [Act.put,lA1,lZ1,lS1])|(refine BC rfl _ _ rfl (.agg Y) #[(0,.int .i64 1),(1,.agg X)] (by simp [Act.eval]) (bY _) ?_;simp only [Act.put,lA1,lZ1,lS1])|(refine AG rfl _ _ _ rfl w.heap.size 48 _ Y rfl rfl f3 (by rw [AE,hYs]) (by rw [hYs];rfl) hY1 ?_;simp only [Act.put]))
     exact EQ rfl rfl f3 hYs HB.out (HC.out _) (by rw [HR.out];rfl)
    | cons y l=>
     go_wp2_with (first|(refine BC rfl _ _ rfl (.agg X) #[(0,.int .i64 4)] (by simp [Act.eval]) (bX _) ?_;simp only [Act.put,lA1,lZ1,lS1])|(refine BC rfl _ _ rfl (.agg Y) #[(0,.int .i64 1),(1,.agg X)] (by simp [Act.eval]) (bY _) ?_;simp only [Act.put,lA1,lZ1,lS1])|(refine AG rfl _ _ _ rfl w.heap.size 48 _ Y rfl rfl f3 (by rw [AE,hYs]) (by rw [hYs];rfl) hY1 ?_;simp only [Act.put]))
     exact BU rfl rfl f3 hYs HB.out (by rw [HR.out];rfl)
theorem fR (w:World) (ad:Addr) (n c j:Nat) (hj:j<=n) (hn:n<=c) :
  (Instr.sliceAt 66 (.slice (some ad) n c) (some (.int .i64 (j:Int))) none none).run Tryz.prog w=.ok (.slice (some (if c-j=0 then ad else ad.add j)) (n-j) (c-j)) w:=by
 have h1:(Instr.sliceBound (.int .i64 (j:Int)) n .sliceB).run Tryz.prog w=.ok j w:=by
  simp [Instr.sliceBound,asIntOf,hj]
 have hs:(sizeOf 9).run Tryz.prog w=.ok 1 w:=Tryz.sizeOf9 w
 simp [Instr.sliceAt,Instr.slice,Instr.sliceBounds,run_underlying Tryz.underlying66,h1,hs]
 by_cases h:c=j
 ·rw [if_pos h,if_pos (by omega)]
 ·rw [if_neg h,if_neg (by omega)]
theorem GP {ops:Array Oper} {rest:List Oper} {o:Oper} {a:Act} {w:World} {Q:Exit->Act->World->Prop} (hgd:o.guard=none)
  (x y:Operand) (ho:o.op=.slice 66 x (some y) none none) (ad:Addr) (n c j:Nat) (hx:a.eval x=.slice (some ad) n c) (hy:a.eval y=.int .i64 (j:Int)) (hj:j<=n) (hn:n<=c) (A1:Option Addr) (n1 c1:Nat) (hA:A1=some (if c-j=0 then ad else ad.add j)) (hn1:n1=n-j) (hc1:c1=c-j)
  (h:wpList Tryz.prog ops Q rest (a.put o.dst (.slice A1 n1 c1)) w):wpList Tryz.prog ops Q (o::rest) a w:=by
 subst hA hn1 hc1
 refine wpList_plain hgd fun _ hK=>?_
 unfold Oper.wp execOp
 simp only [ho,hx,Option.map,hy,Sem.run_bind,Sem.run_pure,Result.andThen_ok,fR w ad n c j hj hn]
 exact hK _ _ h
theorem GQ {w:World} {ad:Addr} {ws:List ByteArray} {c j:Nat} (hc:ws.length<=c) (h:InV w (some ad) (AC ws)):InV w (some (if c-j=0 then ad else ad.add j)) (AC (ws.drop j)):=by
 intro h0
 have hl:(AC (ws.drop j)).length=ws.length-j:=by simp [AC]
 rw [hl] at h0
 obtain ⟨ad',e,h1,h2⟩:=h (by rw [BG];omega)
 obtain rfl:ad=ad':=Option.some.inj e
 rw [if_neg (by omega)]
 refine ⟨_,rfl,by rw [show (ad.add j).block=ad.block by unfold Addr.add;split <;> rfl];exact h1,fun i hi=>?_⟩
 rw [hl] at hi
 have:=h2 (j+i) (by rw [BG];omega)
 rw [show (ad.add j).add i=ad.add (j+i) from (Go.Deep.add_add ad j i)]
 rw [this]
 simp [AC]
theorem fS (k:Int) (w:World):(Instr.build 48 #[(0,.int .i64 2),(2,.int .i64 k)]).run Tryz.prog w=.ok (.agg (AI 2 ⟨0,0,⟨#[]⟩,0,0,0,none,0,0,0,⟨#[]⟩,0,0,0,0,⟨#[]⟩,0,0⟩ k none 0 0)) w:=by kernel_rfl
theorem fT (hd:ByteArray) (hh:hd=B2) (l:List ByteArray) (s:ByteArray) (hs:s.size<=1000000) (h:rW s.data.toList ⟨#[]⟩ []=some (hd::l)) (hl:l.length<=1000000) (hz:∀x ∈ l,x.size<=1000000) (w:World) :
  Calls Tryz.prog 11 #[.string s] w (RPq (match AL l with|some [n]=>some { kind:=2,n:=n }|_=>none) w):=by
 have c0:=D8 s hs (w.alloc (.cells AD 48))
 rw [h] at c0
 obtain ⟨R,hR⟩:∃R:Option Cm,R=(match AL l with|some [n]=>some { kind:=2,n:=n }|_=>none):=⟨_,rfl⟩
 rw [<-hR]
 have HR:=AA hR
 clear hR h
 have f1:=na w AD 48
 have hb1:=bA (b0 w) (.cells AD 48)
 have a1:(hd.toList== ([115,121,110,99]:List UInt8))=false:=BQ _ (by rw [hh];decide)
 have a2:(hd.toList== ([102,108,117,115,104]:List UInt8))=false:=BQ _ (by rw [hh];decide)
 have a3:(hd.toList== ([99,111,109,112,97,99,116]:List UInt8))=false:=BQ _ (by rw [hh];decide)
 have a4:(hd.toList== ([112,111,119,101,114]:List UInt8))=true:=FE _ (by rw [hh];rfl)
 clear hh
 go_enter Tryz.func11,Tryz.ntmps11
 go_wp2_with fail
 refine c0.mono ?_
 rintro e w2 ⟨v,rfl,hO,hb2⟩
 obtain ⟨A,c,rfl,hr⟩:=hO.cr
 have f2:=kp hb2 f1
 have HB:=AA (bB hb1 hb2)
 have hzc:=BF
 have h1:=C2
 have hcap:=hr.cap
 have hin:=hr.inV
 rw [BG] at *
 obtain ⟨ad,rfl,hal,hc⟩:=hin (by simp [AC])
 have q0:=hc 0 (by simp [AC])
 simp only [AC,List.map_cons,List.getElem_cons_zero,CJ] at q0
 have hin2:=GQ (j:=1) hcap hin
 have hlc:(hd::l).length=l.length+1:=rfl
 rw [hlc] at hcap ⊢
 have e3:(hd::l).drop 1=l:=rfl
 rw [e3] at hin2
 obtain ⟨A1,hA1⟩:∃A1,A1=some (if c-1=0 then ad else ad.add 1):=⟨_,rfl⟩
 obtain ⟨c1,hc1⟩:∃c1,c1=c-1:=⟨_,rfl⟩
 rw [<-hA1] at hin2
 have HA1:=AA hA1
 have HC1:=AA hc1
 clear hA1 hc1
 have cN:=GO A1 c1 l hl hz w2 hin2
 clear c0 hb1 hO hc hr hin hin2
 go_wp2_with (refine GP rfl _ _ rfl ad (l.length+1) c 1 rfl rfl (by omega) hcap A1 l.length c1 HA1.out rfl HC1.out ?_;simp only [Act.put,lA1,lZ1,lS1])
 refine cN.mono ?_
 rintro e w3 hp3
 have hB:=HB.out
 cases hp:AL l with
 | none=>
  rw [hp] at hp3
  obtain ⟨rfl,hb3⟩:=hp3
  have f3:=kp hb3 f2
  have HB3:=AA (bB hB hb3)
  have HN:Hid (R=none):=AA (by rw [HR.out,hp])
  clear hp hB hb3 f2 cN q0
  go_wp2_with (first|(refine BC rfl _ _ rfl (.agg AD) #[] (by simp [Act.eval]) (C3 _) ?_;simp only [Act.put,lA1,lZ1,lS1])|(refine AG rfl _ _ _ rfl w.heap.size 48 _ AD rfl rfl f3 (by rw [AE,hzc]) rfl h1 ?_;simp only [Act.put]))
  exact BU rfl rfl f3 BF HB3.out HN.out
 | some xs=>
  rw [hp] at hp3
  obtain ⟨v,rfl,hO3,hb3⟩:=hp3
  have f3:=kp hb3 f2
  have HB3:=AA (bB hB hb3)
  obtain ⟨A3,c3,rfl,hr3⟩:=hO3.cr
  have hin3:=hr3.inV
  rw [BL] at *
  clear hB hb3 f2 cN q0 hO3 hr3
  by_cases h1x:xs.length=1
  ·match xs,h1x with
   | [n],_=>
    obtain ⟨Y,hY⟩:∃Y,Y=AI 2 ⟨0,0,⟨#[]⟩,0,0,0,none,0,0,0,⟨#[]⟩,0,0,0,0,⟨#[]⟩,0,0⟩ n none 0 0:=⟨_,rfl⟩
    have bY:=fS n
    have hYs:Y.size=19:=by rw [hY];rfl
    have hY1:Y.all (·.oneCell')=true:=by rw [hY];exact BB _ _ _ _ _ _
    have HC:Hid (∀W,BI w.heap.size W (.agg Y) { kind:=2,n:=n }):=AA (by rw [hY];exact fun W=>⟨none,0,none,0,rfl,RS.nil _,RS.nil _⟩)
    rw [<-hY] at bY
    clear hY
    have HN:Hid (R=some { kind:=2,n:=n }):=AA (by rw [HR.out,hp])
    obtain ⟨ad3,rfl,-,hc3⟩:=hin3 (by simp [AH])
    have q3:=hc3 0 (by simp [AH])
    simp only [AH,List.map_cons,List.getElem_cons_zero,CJ] at q3
    clear hp hc3 hin3
    simp only [List.length_cons,List.length_nil]
    go_wp2_with (first|(refine BC rfl _ _ rfl (.agg Y) #[(0,.int .i64 2),(2,.int .i64 n)] (by simp [Act.eval]) (bY _) ?_;simp only [Act.put,lA1,lZ1,lS1])|(refine AG rfl _ _ _ rfl w.heap.size 48 _ Y rfl rfl f3 (by rw [AE,hYs]) (by rw [hYs];rfl) hY1 ?_;simp only [Act.put]))
    exact EQ rfl rfl f3 hYs HB3.out (HC.out _) HN.out
  ·have HN:Hid (R=none):=AA (by
    rw [HR.out,hp]
    match xs,h1x with
    | [],_=>rfl
    | _::_::_,_=>rfl)
   have e5:((xs.length:Int) != 1)=true:=by simp;omega
   have e6:((xs.length:Int)== 1)=false:=by simp;omega
   have e7:decide ((xs.length:Int)=1)=false:=decide_eq_false (by omega)
   clear hp hin3
   by_cases h300:300<xs.length
   ·have e8:decide ((300:Int)<(xs.length:Int))=true:=decide_eq_true (by omega)
    go_wp2_with (first|(refine BC rfl _ _ rfl (.agg AD) #[] (by simp [Act.eval]) (C3 _) ?_;simp only [Act.put,lA1,lZ1,lS1])|(refine AG rfl _ _ _ rfl w.heap.size 48 _ AD rfl rfl f3 (by rw [AE,hzc]) rfl h1 ?_;simp only [Act.put]))
    exact BU rfl rfl f3 BF HB3.out HN.out
   ·have e8:decide ((300:Int)<(xs.length:Int))=false:=decide_eq_false (by omega)
    go_wp2_with (first|(refine BC rfl _ _ rfl (.agg AD) #[] (by simp [Act.eval]) (C3 _) ?_;simp only [Act.put,lA1,lZ1,lS1])|(refine AG rfl _ _ _ rfl w.heap.size 48 _ AD rfl rfl f3 (by rw [AE,hzc]) rfl h1 ?_;simp only [Act.put]))
    exact BU rfl rfl f3 BF HB3.out HN.out
structure NoBare (hd:ByteArray):Prop where
 a1:(hd.toList== ([115,121,110,99]:List UInt8))=false
 a2:(hd.toList== ([102,108,117,115,104]:List UInt8))=false
 a3:(hd.toList== ([99,111,109,112,97,99,116]:List UInt8))=false
 a4:(hd.toList== ([112,111,119,101,114]:List UInt8))=false
 a5:(hd.toList== ([99,114,97,115,104]:List UInt8))=false
theorem NoBare.of {hd:ByteArray} (h1:hd≠CV) (h2:hd≠CW) (h3:hd≠CX) (h4:hd≠B2) (h5:hd≠B3):NoBare hd :=
 ⟨BQ _ h1,BQ _ h2,BQ _ h3,BQ _ h4,BQ _ h5⟩
theorem fU (hd:ByteArray) (hb:NoBare hd) (s:ByteArray) (hs:s.size<=1000000) (h:rW s.data.toList ⟨#[]⟩ []=some [hd]) (w:World) :
  Calls Tryz.prog 11 #[.string s] w (RPq none w):=by
 have c0:=D8 s hs (w.alloc (.cells AD 48))
 rw [h] at c0
 obtain ⟨R,hR⟩:∃R:Option Cm,R=none:=⟨_,rfl⟩
 rw [<-hR]
 have HR:=AA hR
 clear hR h
 have f1:=na w AD 48
 have hb1:=bA (b0 w) (.cells AD 48)
 obtain ⟨a1,a2,a3,a4,a5⟩:=hb
 go_enter Tryz.func11,Tryz.ntmps11
 go_wp2_with fail
 refine c0.mono ?_
 rintro e w2 ⟨v,rfl,hO,hb2⟩
 obtain ⟨A,c,rfl,hr⟩:=hO.cr
 have f2:=kp hb2 f1
 have HB:=AA (bB hb1 hb2)
 have hzc:=BF
 have h1:=C2
 obtain ⟨ad,rfl,hal,hc⟩:=hr.inV (by simp [AC])
 have q0:=hc 0 (by simp [AC])
 simp only [AC,List.map_cons,List.getElem_cons_zero,CJ] at q0
 simp only [AC,List.map_cons,List.map_nil,List.length_cons,List.length_nil]
 clear c0 hb1 hO hc hr
 go_wp2_with (first|(refine BC rfl _ _ rfl (.agg AD) #[] (by simp [Act.eval]) (C3 _) ?_;simp only [Act.put,lA1,lZ1,lS1])|(refine AG rfl _ _ _ rfl w.heap.size 48 _ AD rfl rfl f2 (by rw [AE,hzc]) rfl h1 ?_;simp only [Act.put]))
 exact BU rfl rfl f2 BF HB.out HR.out
theorem fV (hd nm:ByteArray) (r:List ByteArray) (hb:NoBare hd) (hn:¬nm.size<=40) (s:ByteArray) (hs:s.size<=1000000) (h:rW s.data.toList ⟨#[]⟩ []=some (hd::nm::r)) (w:World) :
  Calls Tryz.prog 11 #[.string s] w (RPq none w):=by
 have c0:=D8 s hs (w.alloc (.cells AD 48))
 rw [h] at c0
 obtain ⟨R,hR⟩:∃R:Option Cm,R=none:=⟨_,rfl⟩
 rw [<-hR]
 have HR:=AA hR
 clear hR h
 have f1:=na w AD 48
 have hb1:=bA (b0 w) (.cells AD 48)
 obtain ⟨a1,a2,a3,a4,a5⟩:=hb
 go_enter Tryz.func11,Tryz.ntmps11
 go_wp2_with fail
 refine c0.mono ?_
 rintro e w2 ⟨v,rfl,hO,hb2⟩
 obtain ⟨A,c,rfl,hr⟩:=hO.cr
 have f2:=kp hb2 f1
 have HB:=AA (bB hb1 hb2)
 have hzc:=BF
 have h1:=C2
 obtain ⟨ad,rfl,hal,hc⟩:=hr.inV (by simp [AC])
 have q0:=hc 0 (by simp [AC])
 have q1:=hc 1 (by simp [AC])
 simp only [AC,List.map_cons,List.getElem_cons_zero,List.getElem_cons_succ,CJ] at q0 q1
 have q1:w2.cell? ⟨ad.block,ad.off+1,none⟩=some (.string nm):=by simpa [Addr.add] using q1
 rw [BG]
 have e0:(hd::nm::r).length=r.length+2:=rfl
 rw [e0]
 have e1:decide (((r.length+2:Nat):Int)<2)=false:=decide_eq_false (by omega)
 have e2:decide ((r.length:Int)+2<2)=false:=decide_eq_false (by omega)
 have e3:decide ((40:Int)<(nm.size:Int))=true:=decide_eq_true (by omega)
 clear c0 hb1 hO hc hr
 go_wp2_with (first|(refine BC rfl _ _ rfl (.agg AD) #[] (by simp [Act.eval]) (C3 _) ?_;simp only [Act.put,lA1,lZ1,lS1])|(refine AG rfl _ _ _ rfl w.heap.size 48 _ AD rfl rfl f2 (by rw [AE,hzc]) rfl h1 ?_;simp only [Act.put]))
 exact BU rfl rfl f2 BF HB.out HR.out
theorem fW (nm:ByteArray) (t b:Int) (w:World):(Instr.build 29 #[(0,.int .i64 6),(3,.string nm),(4,.int .i64 t),(5,.int .u64 b)]).run Tryz.prog w=.ok (.agg (OpV.cs ⟨6,0,⟨#[]⟩,0,0,0,none,0,0,0,⟨#[]⟩,0,0,0,0,nm,t,b⟩)) w:=by kernel_rfl
theorem D9 (o:OpV) (w:World):(Instr.build 48 #[(0,.int .i64 1),(1,.agg o.cs)]).run Tryz.prog w=.ok (.agg (AI 1 o 0 none 0 0)) w:=by cases o;kernel_rfl
theorem fX (hd nm:ByteArray) (r:List ByteArray) (hb:NoBare hd) (a6:(hd.toList== ([114,101,97,100]:List UInt8))=true) (hn:nm.size<=40) (s:ByteArray) (hs:s.size<=1000000) (h:rW s.data.toList ⟨#[]⟩ []=some (hd::nm::r)) (hz:∀x ∈ r,x.size<=1000000) (w:World) :
  Calls Tryz.prog 11 #[.string s] w (RPq (FD nm r) w):=by
 have c0:=D8 s hs (w.alloc (.cells AD 48))
 rw [h] at c0
 obtain ⟨R,hR⟩:∃R:Option Cm,R=FD nm r:=⟨_,rfl⟩
 rw [<-hR]
 have HR:=AA hR
 clear hR h
 have f1:=na w AD 48
 have hb1:=bA (b0 w) (.cells AD 48)
 obtain ⟨a1,a2,a3,a4,a5⟩:=hb
 go_enter Tryz.func11,Tryz.ntmps11
 go_wp2_with fail
 refine c0.mono ?_
 rintro e w2 ⟨v,rfl,hO,hb2⟩
 obtain ⟨A,c,rfl,hr⟩:=hO.cr
 have f2:=kp hb2 f1
 have HB:=AA (bB hb1 hb2)
 have hzc:=BF
 have h1:=C2
 obtain ⟨ad,rfl,hal,hc⟩:=hr.inV (by simp [AC])
 have q0:=hc 0 (by simp [AC])
 have q1:=hc 1 (by simp [AC])
 simp only [AC,List.map_cons,List.getElem_cons_zero,List.getElem_cons_succ,CJ] at q0 q1
 have q1:w2.cell? ⟨ad.block,ad.off+1,none⟩=some (.string nm):=by simpa [Addr.add] using q1
 rw [BG]
 have e0:(hd::nm::r).length=r.length+2:=rfl
 rw [e0]
 have e2:decide ((r.length:Int)+2<2)=false:=decide_eq_false (by omega)
 have e3:decide ((40:Int)<(nm.size:Int))=false:=decide_eq_false (by omega)
 by_cases hr2:r.length=2
 ·match r,hr2 with
  | [x,y],_=>
   have q2:=hc 2 (by simp [AC])
   have q3:=hc 3 (by simp [AC])
   simp only [AC,List.map_cons,List.getElem_cons_zero,List.getElem_cons_succ,CJ] at q2 q3
   have q2:w2.cell? ⟨ad.block,ad.off+2,none⟩=some (.string x):=by simpa [Addr.add] using q2
   have q3:w2.cell? ⟨ad.block,ad.off+3,none⟩=some (.string y):=by simpa [Addr.add] using q3
   have cx:=fun W=>UG x (hz x (by simp)) W
   have cy:=fun W=>fH y (hz y (by simp)) W
   simp only [UI] at cx
   clear c0 hb1 hO hc hr hz e0
   simp only [List.length_cons,List.length_nil] at *
   obtain ⟨t,okt,ht,hv⟩:∃(t:Int) (okt:Bool),IZ (AS x)=.tuple #[.int .i64 t,.bool okt]/\AS x=if okt then some t else none:=by
    cases AS x with
    | none=>exact ⟨0,false,rfl,rfl⟩
    | some v=>exact ⟨v,true,rfl,rfl⟩
   obtain ⟨b,okb,hbq,hbv⟩:∃(b:Nat) (okb:Bool),UJ (HG y)=.tuple #[.int .u64 (b:Int),.bool okb]/\HG y=if okb then some b else none:=by
    cases HG y with
    | none=>exact ⟨0,false,rfl,rfl⟩
    | some v=>exact ⟨v,true,rfl,rfl⟩
   rw [ht] at cx
   rw [hbq] at cy
   have HN:Hid (R=if okt && okb then some { ok:=6,nm:=nm,t:=t,bits:=(b:Int) } else none):=AA (by
    rw [HR.out,FD,hv]
    rw [show (if y.size=16 then BM y.data.toList 0 else none)=HG y from rfl,hbv]
    cases okt <;> cases okb <;> rfl)
   clear HR ht hv hbq hbv
   obtain ⟨X,hX⟩:∃X,X=OpV.cs ⟨6,0,⟨#[]⟩,0,0,0,none,0,0,0,⟨#[]⟩,0,0,0,0,nm,t,(b:Int)⟩:=⟨_,rfl⟩
   obtain ⟨Y,hY⟩:∃Y,Y=AI 1 ⟨6,0,⟨#[]⟩,0,0,0,none,0,0,0,⟨#[]⟩,0,0,0,0,nm,t,(b:Int)⟩ 0 none 0 0:=⟨_,rfl⟩
   have bX:=fW nm t (b:Int)
   have bY:=D9 ⟨6,0,⟨#[]⟩,0,0,0,none,0,0,0,⟨#[]⟩,0,0,0,0,nm,t,(b:Int)⟩
   have hYs:Y.size=19:=by rw [hY];rfl
   have hY1:Y.all (·.oneCell')=true:=by rw [hY];exact BB _ _ _ _ _ _
   have HC:Hid (∀W,BI w.heap.size W (.agg Y) { ok:=6,nm:=nm,t:=t,bits:=(b:Int) }):=AA (by rw [hY];exact fun W=>⟨none,0,none,0,rfl,RS.nil _,RS.nil _⟩)
   rw [<-hX] at bX bY
   rw [<-hY] at bY
   clear hX hY
   go_wp2_with fail
   refine (cx _).mono ?_
   rintro e w3 ⟨rfl,rfl⟩
   go_wp2_with fail
   refine (cy _).mono ?_
   rintro e w4 ⟨rfl,rfl⟩
   cases okt <;> cases okb
   all_goals go_wp2_with (first|(refine BC rfl _ _ rfl (.agg X) #[(0,.int .i64 6),(3,.string nm),(4,.int .i64 t),(5,.int .u64 (b:Int))] (by simp [Act.eval]) (bX _) ?_;simp only [Act.put,lA1,lZ1,lS1])|(refine BC rfl _ _ rfl (.agg Y) #[(0,.int .i64 1),(1,.agg X)] (by simp [Act.eval]) (bY _) ?_;simp only [Act.put,lA1,lZ1,lS1])|(refine AG rfl _ _ _ rfl w.heap.size 48 _ Y rfl rfl f2 (by rw [AE,hYs]) (by rw [hYs];rfl) hY1 ?_;simp only [Act.put]))
   all_goals first|exact BU rfl rfl f2 hYs HB.out (by rw [HN.out];rfl)|exact EQ rfl rfl f2 hYs HB.out (HC.out _) (by rw [HN.out];rfl)
 ·have HN:Hid (R=none):=AA (by
   rw [HR.out]
   match r,hr2 with
   | [],_=>rfl
   | [_],_=>rfl
   | _::_::_::_,_=>rfl)
  have e5:((r.length:Int)+2 != 4)=true:=by simp;omega
  have e6:((r.length:Int)+2== 4)=false:=by simp;omega
  have e7:decide ((r.length:Int)+2=4)=false:=decide_eq_false (by omega)
  clear c0 hb1 hO hc hr hz e0 HR
  go_wp2_with (first|(refine BC rfl _ _ rfl (.agg AD) #[] (by simp [Act.eval]) (C3 _) ?_;simp only [Act.put,lA1,lZ1,lS1])|(refine AG rfl _ _ _ rfl w.heap.size 48 _ AD rfl rfl f2 (by rw [AE,hzc]) rfl h1 ?_;simp only [Act.put]))
  exact BU rfl rfl f2 BF HB.out HN.out
namespace Abs
section
variable {P:Program} {ops:Array Oper} {C:Cls}
def tailB (ops:Array Oper) (L:Nat):Bool:=(List.range ops.size).all fun t=>decide (t<L) || (List.range L).all fun i=>reach ops t i
def LH (ops:Array Oper) (L:Nat):List Nat->Array Bool->Bool
 | [],listed=>Region.seqB .any ops (ops.size-L) L listed
 | i::l,listed=>decide (i<L) && (Region.ready .any ops listed).contains i && M9 ops listed i && LH ops L l (listed.setIfInBounds i true)
def okL (ops:Array Oper) (ord:List Nat) (L:Nat):Bool:=Region.noSelect ops && tailB ops L && decide (L<ops.size) && LH ops L ord (Array.replicate ops.size false) && (ord.length== L)
def I4 (P:Program) (ops:Array Oper) (C:Cls) (L:Nat) (Q:Act->St->Prop):Nat->Array Bool->Act->St->Prop
 | 0,listed,a,s=>Region.seqB .any ops (ops.size-L) L listed=true/\Q a s
 | n+1,listed,a,s=>Region.ready .any ops listed≠[]/\∀i ∈ Region.ready .any ops listed,i<L/\aOp P ops C i (I4 P ops C L Q n (listed.setIfInBounds i true)) a s
theorem fY {Q:Act->St->Prop} {L i:Nat} {oi:Oper} (hi:ops[i]?=some oi) (hiL:i<L) (hT:tailB ops L=true) (hsel:∀(j:Nat) (o:Oper) cs b,ops[j]?=some o->o.op≠.select cs b) :
  ∀(n:Nat) (listed:Array Bool) (a:Act) (s:St),FQ ops listed ->
   (∀j oj,ops[j]?=some oj->j≠i->listed.getD j true=false->reach ops j i=true∨(oi.apart ops oj=true/\IP (kindOf oi) (kindOf oj)=true)) ->
   i ∈ Region.ready .any ops listed->Good C s->aOp P ops C i (I4 P ops C L Q n (listed.setIfInBounds i true)) a s->I4 P ops C L Q (n+1) listed a s:=by
 intro n
 induction n with
 | zero=>
  intro listed a s hcl hfree hr hg H
  refine ⟨fun h=>(by rw [h] at hr;cases hr),fun j hj=>?_⟩
  obtain ⟨hiun,oi',hoi',halli⟩:=mem_ready.1 hr
  obtain ⟨hjun,oj,hoj,hall⟩:=mem_ready.1 hj
  have nolist:∀k:Nat,listed.getD k true=false->listed.getD k false=true->False:=fun k h0 h1=>by
   rcases Nat.lt_or_ge k listed.size with h'|h'
   ·simp [h'] at h0 h1;rw [h0] at h1;cases h1
   ·simp [Array.getElem?_eq_none h'] at h0
  have hjL:j<L:=tail_no hT hcl nolist hiun hiL hoj hall
  by_cases hji:j=i
  ·subst hji;exact ⟨hjL,H⟩
  ·exfalso
   have h1:=ready_mono hj hji
   have key:Region.seqB .any ops (ops.size-L) L (listed.setIfInBounds i true)=true:=by
    have hex:∃a' s',I4 P ops C L Q 0 (listed.setIfInBounds i true) a' s':=by
     unfold aOp at H
     simp only [hi] at H
     obtain ⟨w,hw⟩:=hg.1
     rcases H with ⟨v,_,hK⟩|⟨h1,h2,h3,φ,h4,h5,h6⟩|⟨h1,h2,h3,f,obj,h4,h5⟩|⟨h1,h2,T,h3,h4⟩
     ·exact ⟨_,_,hK hg⟩
     ·obtain ⟨hJ,w0,hI,x1,x2,x3,x4⟩:=id hw
      have e:=x4 h3
      subst e
      obtain ⟨v0,w',hr',hp⟩:=OX (h5 w hI (fun j _=>x1 j))
      exact ⟨_,_,h6 v0 ⟨⟨w',Good.setF hg h3 hw hr' hp⟩,GJ hg.2.1 (h4 v0),hg.2.2⟩⟩
     ·obtain ⟨hJ,w0,hI,x1,x2,x3,x4⟩:=id hw
      have e:=x4 h3
      subst e
      have hB0:=C.hB w hI
      exact ⟨_,_,h5 w.heap.size hB0 (fun hu=>Nat.lt_irrefl _ (x2 _ hu)) ⟨⟨_,Good.addA hg h3 hw⟩,GJ hg.2.1 (NA fun ht=>Nat.lt_irrefl _ (Nat.lt_of_lt_of_le (C.low _ ht) hB0)),hg.2.2⟩⟩
     ·obtain ⟨hJ,w0,hI,x1,x2,x3,x4⟩:=hw
      obtain ⟨_,q⟩:=h3 w0 hI x1 x2
      exact ⟨_,_,h4 ⟨⟨T w0,q (x3▸hJ),w0,hI,x1,x2,rfl,fun e=>by cases e⟩,hg.2.1,fun e=>by cases e⟩⟩
    obtain ⟨_,_,h,_⟩:=hex
    exact h
   have:=seqB_ready key j h1
   omega
 | succ n ih=>
  intro listed a s hcl hfree hr hg H
  refine ⟨fun h=>(by rw [h] at hr;cases hr),fun j hj=>?_⟩
  obtain ⟨hiun,oi',hoi',halli⟩:=mem_ready.1 hr
  obtain ⟨hjun,oj,hoj,hall⟩:=mem_ready.1 hj
  have nolist:∀k:Nat,listed.getD k true=false->listed.getD k false=true->False:=fun k h0 h1=>by
   rcases Nat.lt_or_ge k listed.size with h'|h'
   ·simp [h'] at h0 h1;rw [h0] at h1;cases h1
   ·simp [Array.getElem?_eq_none h'] at h0
  have hjL:j<L:=tail_no hT hcl nolist hiun hiL hoj hall
  refine ⟨hjL,?_⟩
  by_cases hji:j=i
  ·subst hji;exact H
  ·have hnot:reach ops j i=true->False:=fun hre=>nolist i hiun (OZ hcl j i oj hoj hall hre)
   obtain ⟨hap,hco⟩:=(hfree j oj hoj hji hjun).resolve_left hnot
   have hij:kindOf oj=.s->FP ops i=false:=fun hk=>by
    cases hsu:FP ops i
    ·rfl
    ·exact (hnot (S8 hsu hoj hk)).elim
   have H1:aOp P ops C i (fun a' s'=>aOp P ops C j (I4 P ops C L Q n ((listed.setIfInBounds i true).setIfInBounds j true)) a' s') a s :=
    SW P ops C (fun a' s' h=>(h.2 j (ready_mono hj hji)).2) H
   have H2:=SY hi hoj hap hco (fun cs b=>hsel i oi cs b hi) (fun cs b=>hsel j oj cs b hoj) hij hg H1
   have hfree':∀k ok,ops[k]?=some ok->k≠i->(listed.setIfInBounds j true).getD k true=false->reach ops k i=true∨(oi.apart ops ok=true/\IP (kindOf oi) (kindOf ok)=true):=fun k ok hk hki hun=>by
    refine hfree k ok hk hki ?_
    by_cases hjk:j=k
    ·subst hjk;exact hjun
    ·rw [getD_set_ne true hjk] at hun;exact hun
   unfold aOp at H2 ⊢
   simp only [hoj] at H2 ⊢
   refine JS P ops C (fun a' s' h3 hg'=>?_) H2
   refine ih (listed.setIfInBounds j true) a' s' (hcl.set hj) hfree' (ready_mono hr (Ne.symm hji)) hg' ?_
   rw [Array.setIfInBounds_comm _ _ hji]
   exact h3 hg'
 where
 tail_no {ops:Array Oper} {L i j:Nat} {oj:Oper} {listed:Array Bool} (hT:tailB ops L=true) (hcl:FQ ops listed) (nolist:∀k:Nat,listed.getD k true=false->listed.getD k false=true->False)
   (hiun:listed.getD i true=false) (hiL:i<L) (hoj:ops[j]?=some oj) (hall:∀e ∈ oj.after,Region.binds .any e=true->listed.getD e.on false=true):j<L:=by
  rcases Nat.lt_or_ge j L with h|h
  ·exact h
  ·exfalso
   have hlt:j<ops.size:=(Array.getElem?_eq_some_iff.1 hoj).1
   have h1:=List.all_eq_true.1 hT j (List.mem_range.2 hlt)
   simp only [Bool.or_eq_true,decide_eq_true_eq] at h1
   rcases h1 with h1|h1
   ·omega
   ·exact nolist i hiun (OZ hcl j i oj hoj hall (List.all_eq_true.1 h1 i (List.mem_range.2 hiL)))
theorem UR {Q:Act->St->Prop} {L:Nat} (hT:tailB ops L=true) (hsel:∀(j:Nat) (o:Oper) cs b,ops[j]?=some o->o.op≠.select cs b):∀(l:List Nat) (listed:Array Bool) (a:Act) (s:St),FQ ops listed->LH ops L l listed=true->Good C s ->
  wpOrd P ops C Q l a s->I4 P ops C L Q l.length listed a s
 | [],listed,a,s,_,hB,_,h=>⟨by simpa [LH] using hB,h⟩
 | i::l,listed,a,s,hcl,hB,hg,h=>by
  simp only [LH,Bool.and_eq_true,decide_eq_true_eq] at hB
  obtain ⟨⟨⟨hiL,hr⟩,hf⟩,hB'⟩:=hB
  have hr':i ∈ Region.ready .any ops listed:=by simpa using hr
  obtain ⟨_,oi,hoi,_⟩:=mem_ready.1 hr'
  refine fY hoi hiL hT hsel l.length listed a s hcl (S9 hoi hf) hr' hg ?_
  have h':aOp P ops C i (wpOrd P ops C Q l) a s:=h
  unfold aOp at h' ⊢
  simp only [hoi] at h' ⊢
  exact JS P ops C (fun a' s' h3 hg'=>UR hT hsel l _ a' s' (hcl.set hr') hB' hg' (h3 hg')) h'
theorem US {Q:Act->St->Prop} {Q':Exit->Act->World->Prop} {L:Nat} {tl:List Oper} (htl:∀j,tl[j]?=ops[L+j]?) (hlen:ops.size-L=tl.length)
  (hQ:∀a s w,Good C s->Sat C s w->Q a s->wpList P ops Q' tl a w):∀(n:Nat) (listed:Array Bool) (a:Act) (s:St) (w:World),Good C s->Sat C s w ->
  I4 P ops C L Q n listed a s->wpAny P .any ops Q' (n+tl.length) listed a w
 | 0,listed,a,s,w,hg,hw,h=>by
  rw [Nat.zero_add]
  refine wpAny_of_seq tl L listed a w htl ?_ (hQ _ _ _ hg hw h.2)
  rw [<-hlen];exact h.1
 | n+1,listed,a,s,w,hg,hw,h=>by
  rw [show n+1+tl.length=(n+tl.length)+1 by omega]
  exact ⟨fun h0=>absurd h0 h.1,fun i hi=>TB hg hw (fun a' s' w' hg' hw' hk=>US htl hlen hQ n _ a' s' w' hg' hw' hk) (h.2 i hi).2⟩
theorem wp_region_tail {id:Nat} {Q:Exit->Act->World->Prop} {a:Act} {w:World} {l:List Oper} (C:Cls) (ord:List Nat) (L:Nat) (hm:P.follows .mixedOrders=true) (hB:okL l.toArray ord L=true) (hI:C.I w.drew)
  (h:wpOrd P l.toArray C (fun a s=>∀w0,C.I w0->(∀j,s.F j w0)->(∀k,s.U k->k<w0.heap.size)->C.J (s.T w0)->wpList P l.toArray Q (l.drop L) a (s.T w0)) ord a St.start):(Code.region id l.toArray true).wp P Q a w:=by
 simp only [okL,Bool.and_eq_true,beq_iff_eq,decide_eq_true_eq] at hB
 obtain ⟨⟨⟨⟨hs,hT⟩,hL⟩,hok⟩,hlen⟩:=hB
 have hgood:Good C St.start:=⟨⟨w.drew,C.IJ _ hI,w.drew,hI,fun _=>trivial,fun _ hk=>hk.elim,rfl,fun _=>rfl⟩,fun _ _ _ h _=>h,fun _ _=>rfl⟩
 have hsat:Sat C St.start w.drew:=⟨C.IJ _ hI,w.drew,hI,fun _=>trivial,fun _ hk=>hk.elim,rfl,fun _=>rfl⟩
 refine wp_region_any hm ?_
 have hL':L<l.length:=by simpa using hL
 have hsz:l.toArray.size=ord.length+(l.drop L).length:=by simp;omega
 rw [hsz]
 refine US (C:=C) (L:=L) (Q:=fun a s=>∀w0,C.I w0->(∀j,s.F j w0)->(∀k,s.U k->k<w0.heap.size)->C.J (s.T w0)->wpList P l.toArray Q (l.drop L) a (s.T w0)) (fun j=>by simp) (by simp) (fun a s w _ hw hq=>?_) _ _ _ _ _ hgood hsat
  (UR hT (Region.noSelect_spec hs) ord _ a _ ?_ (by rw [<-hsz];exact hok) hgood h)
 ·obtain ⟨hJ,w0,hI0,x1,x2,x3,_⟩:=hw
  subst x3
  exact hq w0 hI0 x1 x2 hJ
 ·intro j oj _ hl
  rw [wp_region_abs.getD_replicate] at hl
  cases hl
end
end Abs
theorem InK.at {w:World} {g:Nat} {cs:Array Value} {T:TypeId} {k:Nat} (h:w.heap[g]?=some (.cells cs T (0,0))) (hk:cs.size=k):InK w (some ⟨g,0,none⟩) 1 k cs.toList :=
 ⟨by simp [hk],fun _=>⟨_,rfl,(Array.getElem?_eq_some_iff.1 h).1,fun i hi=>by
  rw [show (⟨g,0,none⟩:Addr).add i=⟨g,i,none⟩ by
   unfold Addr.add
   split
   ·next h0=>simp [h0]
   ·simp]
  rw [(AB h).1]
  simp⟩⟩
theorem NK {ops:Array Oper} {rest:List Oper} {o:Oper} {a:Act} {w:World} {Q:Exit->Act->World->Prop} (hgd:o.guard=none) (t e:TypeId) (hu:Tryz.prog.underlying t=some (.slice e)) (p x:Operand)
  (ho:o.op=.store t p x) (g i:Nat) (T:TypeId) (old:Array Value) (A:Option Addr) (n c:Nat) (hp:a.eval p=.pointer (some ⟨g,i,none⟩)) (hx:a.eval x=.slice A n c)
  (hg:w.heap[g]?=some (.cells old T (0,0))) (hi:i<old.size) (hz:∀w,(sizeOf t).run Tryz.prog w=.ok 1 w)
  (h:wpList Tryz.prog ops Q rest (a.put o.dst undef) (setRow w g (old.setIfInBounds i (.slice A n c)))):wpList Tryz.prog ops Q (o::rest) a w:=by
 have hrun:(Instr.storeAt t (.pointer (some ⟨g,i,none⟩)) (.slice A n c)).run Tryz.prog w=.ok () (w.setCell ⟨g,i,none⟩ (.slice A n c)):=by
  obtain ⟨z1,z2,z3⟩:=AB hg
  have e1:w.cell? ⟨g,i,none⟩=some old[i]:=by rw [z1];simp [hi]
  have e2:=z2 i
  simp [Instr.storeAt,Instr.sureAddr,storeVar,hz,storeCells,go_sem,e1,e2]
 refine wpList_plain hgd fun _ hK=>?_
 unfold Oper.wp execOp
 simp only [ho,hp,hx,Sem.run_bind,Sem.run_pure,Result.andThen_ok,hrun]
 rw [DH hg _ rfl]
 exact hK _ _ h
abbrev oz:OpV:=⟨0,0,⟨#[]⟩,0,0,0,none,0,0,0,⟨#[]⟩,0,0,0,0,⟨#[]⟩,0,0⟩
theorem fZ (w:World):(Instr.build 48 #[(0,.int .i64 3)]).run Tryz.prog w=.ok (.agg (AI 3 oz 0 none 0 0)) w:=by kernel_rfl
theorem gA (hd:ByteArray) (hh:hd=B3) (l:List ByteArray) (s:ByteArray) (hs:s.size<=1000000) (h:rW s.data.toList ⟨#[]⟩ []=some (hd::l)) (hl:l.length<=1000000) (hz:∀x ∈ l,x.size<=1000000) (w:World) :
  Calls Tryz.prog 11 #[.string s] w (RPq (match AL l with|some xs=>if xs.length<=300 then some { kind:=3,masks:=xs } else none|none=>none) w):=by
 have c0:=D8 s hs (w.alloc (.cells AD 48))
 rw [h] at c0
 obtain ⟨R,hR⟩:∃R:Option Cm,R=(match AL l with|some xs=>if xs.length<=300 then some { kind:=3,masks:=xs } else none|none=>none):=⟨_,rfl⟩
 rw [<-hR]
 have HR:=AA hR
 clear hR h
 have f1:=na w AD 48
 have hb1:=bA (b0 w) (.cells AD 48)
 have a1:(hd.toList== ([115,121,110,99]:List UInt8))=false:=BQ _ (by rw [hh];decide)
 have a2:(hd.toList== ([102,108,117,115,104]:List UInt8))=false:=BQ _ (by rw [hh];decide)
 have a3:(hd.toList== ([99,111,109,112,97,99,116]:List UInt8))=false:=BQ _ (by rw [hh];decide)
 have a4:(hd.toList== ([112,111,119,101,114]:List UInt8))=false:=BQ _ (by rw [hh];decide)
 have a5:(hd.toList== ([99,114,97,115,104]:List UInt8))=true:=FE _ (by rw [hh];rfl)
 clear hh
 go_enter Tryz.func11,Tryz.ntmps11
 go_wp2_with fail
 refine c0.mono ?_
 rintro e w2 ⟨v,rfl,hO,hb2⟩
 obtain ⟨A,c,rfl,hr⟩:=hO.cr
 have f2:=kp hb2 f1
 have HB:=AA (bB hb1 hb2)
 have hzc:=BF
 have h1:=C2
 have hcap:=hr.cap
 have hin:=hr.inV
 rw [BG] at *
 obtain ⟨ad,rfl,hal,hc⟩:=hin (by simp [AC])
 have q0:=hc 0 (by simp [AC])
 simp only [AC,List.map_cons,List.getElem_cons_zero,CJ] at q0
 have hin2:=GQ (j:=1) hcap hin
 have hlc:(hd::l).length=l.length+1:=rfl
 rw [hlc] at hcap ⊢
 have e3:(hd::l).drop 1=l:=rfl
 rw [e3] at hin2
 obtain ⟨A1,hA1⟩:∃A1,A1=some (if c-1=0 then ad else ad.add 1):=⟨_,rfl⟩
 obtain ⟨c1,hc1⟩:∃c1,c1=c-1:=⟨_,rfl⟩
 rw [<-hA1] at hin2
 have HA1:=AA hA1
 have HC1:=AA hc1
 clear hA1 hc1
 have cN:=GO A1 c1 l hl hz w2 hin2
 clear c0 hb1 hO hc hr hin hin2
 go_wp2_with (refine GP rfl _ _ rfl ad (l.length+1) c 1 rfl rfl (by omega) hcap A1 l.length c1 HA1.out rfl HC1.out ?_;simp only [Act.put,lA1,lZ1,lS1])
 refine cN.mono ?_
 rintro e w3 hp3
 have hB:=HB.out
 cases hp:AL l with
 | none=>
  rw [hp] at hp3
  obtain ⟨rfl,hb3⟩:=hp3
  have f3:=kp hb3 f2
  have HB3:=AA (bB hB hb3)
  have HN:Hid (R=none):=AA (by rw [HR.out,hp])
  clear hp hB hb3 f2 cN q0
  go_wp2_with (first|(refine BC rfl _ _ rfl (.agg AD) #[] (by simp [Act.eval]) (C3 _) ?_;simp only [Act.put,lA1,lZ1,lS1])|(refine AG rfl _ _ _ rfl w.heap.size 48 _ AD rfl rfl f3 (by rw [AE,hzc]) rfl h1 ?_;simp only [Act.put]))
  exact BU rfl rfl f3 BF HB3.out HN.out
 | some xs=>
  rw [hp] at hp3
  obtain ⟨v,rfl,hO3,hb3⟩:=hp3
  have f3:=kp hb3 f2
  have HB3:=AA (bB hB hb3)
  obtain ⟨A3,c3,rfl,hr3⟩:=hO3.cr
  have HI3:=AA hr3.inV
  rw [BL] at *
  clear hB hb3 f2 cN q0 hO3 hr3
  by_cases h300:300<xs.length
  ·have HN:Hid (R=none):=AA (by rw [HR.out,hp];simp only;rw [if_neg (by omega)])
   have e8:decide ((300:Int)<(xs.length:Int))=true:=decide_eq_true (by omega)
   clear hp
   go_wp2_with (first|(refine BC rfl _ _ rfl (.agg AD) #[] (by simp [Act.eval]) (C3 _) ?_;simp only [Act.put,lA1,lZ1,lS1])|(refine AG rfl _ _ _ rfl w.heap.size 48 _ AD rfl rfl f3 (by rw [AE,hzc]) rfl h1 ?_;simp only [Act.put]))
   exact BU rfl rfl f3 BF HB3.out HN.out
  ·have HN:Hid (R=some { kind:=3,masks:=xs }):=AA (by rw [HR.out,hp];simp only;rw [if_pos (by omega)])
   have e8:decide ((300:Int)<(xs.length:Int))=false:=decide_eq_false (by omega)
   clear hp
   obtain ⟨Y,hY⟩:∃Y,Y=AI 3 oz 0 none 0 0:=⟨_,rfl⟩
   have bY:=fZ
   have hYs:Y.size=19:=by rw [hY];rfl
   have hY1:Y.all (·.oneCell')=true:=by rw [hY];exact BB _ _ _ _ _ _
   rw [<-hY] at bY
   have HY:=AA hY
   clear hY
   go_wp2_with (first|(refine BC rfl _ _ rfl (.agg Y) #[(0,.int .i64 3)] (by simp [Act.eval]) (bY _) ?_;simp only [Act.put,lA1,lZ1,lS1])|(refine AG rfl _ _ _ rfl w3.heap.size 48 _ Y rfl rfl (na w3 AD 48) (by rw [AE,hYs]) (by rw [hYs];rfl) hY1 ?_;simp only [Act.put]))
   obtain ⟨q,hq⟩:∃q,q=w3.heap.size:=⟨_,rfl⟩
   have hqw:w.heap.size<q:=by rw [hq];exact (AB f3).2.2
   generalize hT:setRow (w3.alloc _) w3.heap.size _=w4
   obtain ⟨hx4,fq4⟩:=AK (b0 _) (na w3 AD 48) hT
   have HB4:=AA (bX (bA (b0 w3) (.cells AD 48)) hx4 (Nat.le_refl _))
   rw [<-hq] at fq4 ⊢
   rw [HY.out] at fq4
   have HQ:=AA hq
   clear hT hx4 hq bY
   go_loopw [12] (fun v12 wr=>∃(k:Nat) (M:Option Addr) (mc:Nat),v12=.int .i64 (k:Int)/\k<=xs.length/\(wr.heap[q]?=some (.cells (AI 3 oz 0 M k mc) 48 (0,0)))/\Hid (BT 3 1 (q+1) wr (.slice M k mc) k (AH (xs.take k)))/\Hid (k=0->(.slice M k mc:Value)=.slice none 0 0)/\Hid (Below w3.heap.size w3 wr)) (fun v12 _=>xs.length-(intOf v12).toNat)
   case atStart=>exact ⟨0,none,0,rfl,by omega,fq4,AA (BT.nil _ _),AA (fun _=>rfl),HB4⟩
   case round=>
    obtain ⟨k,M,mc,rfl,hk,fq,HO,HZ,HBr⟩:=hrel
    by_cases hlt:k<xs.length
    ·have e1:decide ((k:Int)<(xs.length:Int))=true:=decide_eq_true (by omega)
     obtain ⟨ad3,rfl,-,-⟩:=HI3.out (by rw [BL];omega)
     obtain ⟨x,hx⟩:∃x,x=xs[k]:=⟨_,rfl⟩
     have QX:∀w0,Below wr.heap.size wr w0->w0.cell? (ad3.add k)=some (.int .i64 x):=fun w0 hI=>by
      obtain ⟨ad',e,-,hc⟩:=(HI3.out.below (bB HBr.out hI)) (by rw [BL];omega)
      obtain rfl:=Option.some.inj e
      have:=hc k (by rw [BL];omega)
      rw [this,hx];simp [AH]
     have HX:Hid (AH (xs.take (k+1))=AH (xs.take k)++[.int .i64 x]):=AA (by rw [List.take_succ_eq_append_getElem hlt,PE,hx];rfl)
     clear hx
     have fq':=fq
     unfold AI at fq'
     obtain ⟨z1,z2,z3⟩:=AB fq'
     go_wp2_with fail
     refine Abs.wp_region_tail (Abs.cls0 _) [0,1,2,3,4,5,6] 7 (by kernel_rfl) (by kernel_rfl) (Below.refl _ _).drew ?_
     (refine Abs.step_pure rfl rfl (fun K hK=>?_);go_simp;(try go_bits);(first|refine hK _ _ ?_|(simp only [↓IntWalk.iteOmega];go_simp;(try go_bits);refine hK _ _ ?_));clear hK K)
     (refine Abs.step_load (v:=?_) rfl rfl (by kernel_rfl) rfl (fun w0 hI=>?_) (fun K hK=>?_);rotate_left;(· have z0:=(AB (kp hI (fq'))).1;go_simp;rfl);(simp only [Act.put,lA1,lZ1,lS1];refine hK _ _ ?_;clear hK K))
     iterate 3 (refine Abs.step_pure rfl rfl (fun K hK=>?_);go_simp;(try go_bits);(first|refine hK _ _ ?_|(simp only [↓IntWalk.iteOmega];go_simp;(try go_bits);refine hK _ _ ?_));clear hK K)
     (refine Abs.step_load (v:=?_) rfl rfl (by kernel_rfl) rfl (fun w0 hI=>?_) (fun K hK=>?_);rotate_left;(· have z0:=QX w0 hI;go_simp;rfl);(simp only [Act.put,lA1,lZ1,lS1];refine hK _ _ ?_;clear hK K))
     (refine Abs.step_new (f:=fun g=>.slice (some ⟨g,0,none⟩) 1 1) (obj:=.cells #[.int .i64 x] 3) rfl rfl rfl rfl (fun w0=>?_) (fun K hK g_x hv_x hu_x=>?_);(· go_simp;try rfl);(simp only [Act.put,lA1,lZ1,lS1];refine hK _ _ ?_;clear hK K))
     intro w0 hI hF hx1 hx2
     have hlit:=(hF 6).2 rfl
     clear hx1 hx2 hF
     simp only [Abs.T_setF,Abs.T_addA,Abs.T_push,Abs.T_start,List.drop_succ_cons,List.drop_zero]
     have f5:=kp hI fq
     have HO5:=AA (HO.out.lift hI)
     have HK5:=AA (InK.at (k:=1) hlit rfl)
     have HB5:=AA (bB HBr.out hI)
     have hs5:q+1<=w0.heap.size:=(AB f5).2.2
     clear hlit hI z1 z2 z3 fq'
     go_wp2_with (first
      | (refine JT rfl _ _ _ rfl 8 Tryz.underlying46 O4 rfl (by decide) (by decide) (q+1) _ k 1 (AH (xs.take k)) [.int .i64 x] (some ⟨g_x,0,none⟩) 1 rfl rfl HO5.out HK5.out (by simp [Value.oneCell']) (by omega) hs5 ?_;intro v6 w6 hO6 hlow6 hsz6;obtain ⟨A6,c6,rfl,-⟩:=hO6.cr;have hb6:=hlow6 w0 (Below.refl _ _);have f6:=(hb6.block q (by omega)).trans f5;have HB6:=AA (HB5.out.trans (hb6.mono (by have:=HQ.out;omega)));have HO6:=AA hO6;clear hlow6 hO6 hb6)
      | (refine NK rfl 46 3 Tryz.underlying46 _ _ rfl q 18 48 _ A6 (k+1) c6 rfl rfl f6 (by simp [AI]) (fun w=>Tryz.sizeOf46 w) ?_;generalize hT7:setRow w6 _ _=w7;obtain ⟨hx7,f7⟩:=AK (b0 _) f6 hT7;have HB7:=AA (bX HB6.out hx7 (by have:=HQ.out;omega));have HO7:=AA (HO6.out.excP hx7 (by omega));clear hT7 hx7))
     go_roundw
     case rel=>exact ⟨k+1,A6,c6,by go_num,by omega,by simpa [AI] using f7,AA (by rw [HX.out];exact HO7.out),AA (fun h=>by omega),HB7⟩
     case measure=>simp [intOf];omega
    ·obtain rfl:k=xs.length:=by omega
     have e1:decide ((xs.length:Int)<(xs.length:Int))=false:=decide_eq_false (by omega)
     rw [List.take_length] at HO
     obtain ⟨M',mc',e,hk3⟩:=HO.out.crS HZ.out
     injection e with e4 e5 e6
     subst e4 e6
     have f3:=kp HBr.out f3
     obtain ⟨Z,hZ⟩:∃Z,Z=AI 3 oz 0 M xs.length mc:=⟨_,rfl⟩
     have hZs:Z.size=19:=by rw [hZ];rfl
     have hZ1:Z.all (·.oneCell')=true:=by rw [hZ];exact BB _ _ _ _ _ _
     have HC:Hid (BI w.heap.size wr (.agg Z) { kind:=3,masks:=xs }):=AA (by rw [hZ];exact ⟨none,0,M,mc,rfl,RS.nil _,hk3.mono (by omega)⟩)
     rw [<-hZ] at fq
     have HBw:=AA (bB HB3.out HBr.out)
     clear hZ hk3 e5
     go_wp2_with (first|(refine DU rfl _ _ rfl q 48 Z rfl fq _ rfl Tryz.underlying48 (by rw [AE,hZs]) ?_;simp only [Act.put,lA1,lZ1,lS1])|(refine AG rfl _ _ _ rfl w.heap.size 48 _ Z rfl rfl f3 (by rw [AE,hZs]) (by rw [hZs];rfl) hZ1 ?_;simp only [Act.put]))
     exact EQ rfl rfl f3 hZs HBw.out HC.out HN.out
theorem eqT {a b:ByteArray} (h:a=b):(a.toList== b.toList)=true:=by subst h;simp
theorem eqF {a b:ByteArray} (h:a≠b):(a.toList== b.toList)=false:=by
 rw [beq_eq_false_iff_ne]
 intro e
 apply h
 apply ByteArray.ext
 rw [ByteArray.toList_eq,ByteArray.toList_eq] at e
 exact Array.toList_inj.1 e
theorem UT {x:ByteArray} {k:Nat} (h1:1<=k) (h5:k<=5) (e:AW k=x):CH x=k:=by
 subst e
 obtain rfl|rfl|rfl|rfl|rfl:k=1∨k=2∨k=3∨k=4∨k=5:=by omega
 all_goals decide
theorem UU {x:ByteArray} (h:∀j,1<=j->j<6->AW j≠x):CH x=0:=by
 have h1:x≠CG:=fun e=>h 1 (by omega) (by omega) (by rw [e];rfl)
 have h2:x≠CK:=fun e=>h 2 (by omega) (by omega) (by rw [e];rfl)
 have h3:x≠CU:=fun e=>h 3 (by omega) (by omega) (by rw [e];rfl)
 have h4:x≠C1:=fun e=>h 4 (by omega) (by omega) (by rw [e];rfl)
 have h5:x≠C8:=fun e=>h 5 (by omega) (by omega) (by rw [e];rfl)
 unfold CH
 rw [if_neg h1,if_neg h2,if_neg h3,if_neg h4,if_neg h5]
theorem gB (nm:ByteArray) (a b k n:Int) (w:World):(Instr.build 26 #[(0,.int .i64 8),(1,.string nm),(2,.int .i64 a),(3,.int .i64 b),(4,.int .i64 k),(5,.int .i64 n)]).run Tryz.prog w=.ok (.agg #[.int .i64 8,.string nm,.int .i64 a,.int .i64 b,.int .i64 k,.int .i64 n]) w:=by kernel_rfl
theorem UV (q0:Int) (nm:ByteArray) (a b k n:Int) (w:World):(Instr.build 29 #[(0,.int .i64 5),(2,.agg #[.int .i64 q0,.string nm,.int .i64 a,.int .i64 b,.int .i64 k,.int .i64 n])]).run Tryz.prog w=.ok (.agg (OpV.cs ⟨5,0,⟨#[]⟩,0,0,0,none,0,0,q0,nm,a,b,k,n,⟨#[]⟩,0,0⟩)) w:=by kernel_rfl
theorem gC (hd nm:ByteArray) (r:List ByteArray) (hb:NoBare hd) (a6:(hd.toList== ([114,101,97,100]:List UInt8))=false) (a7:(hd.toList== ([98,117,99,107,101,116,115]:List UInt8))=true) (hn:nm.size<=40) (s:ByteArray) (hs:s.size<=1000000) (h:rW s.data.toList ⟨#[]⟩ []=some (hd::nm::r)) (hz:∀x ∈ r,x.size<=1000000) (w:World) :
  Calls Tryz.prog 11 #[.string s] w (RPq (C9 nm r) w):=by
 have c0:=D8 s hs (w.alloc (.cells AD 48))
 rw [h] at c0
 obtain ⟨R,hR⟩:∃R:Option Cm,R=C9 nm r:=⟨_,rfl⟩
 rw [<-hR]
 have HR:=AA hR
 clear hR h
 have f1:=na w AD 48
 have hb1:=bA (b0 w) (.cells AD 48)
 obtain ⟨a1,a2,a3,a4,a5⟩:=hb
 go_enter Tryz.func11,Tryz.ntmps11
 go_wp2_with fail
 refine c0.mono ?_
 rintro e w2 ⟨v,rfl,hO,hb2⟩
 obtain ⟨A,c,rfl,hr⟩:=hO.cr
 have f2:=kp hb2 f1
 have HB:=AA (bB hb1 hb2)
 have hzc:=BF
 have h1:=C2
 have hcap:=hr.cap
 have hin:=hr.inV
 rw [BG] at hcap
 obtain ⟨ad,rfl,hal,hc⟩:=hr.inV (by simp [AC])
 have q0:=hc 0 (by simp [AC])
 have q1:=hc 1 (by simp [AC])
 simp only [AC,List.map_cons,List.getElem_cons_zero,List.getElem_cons_succ,CJ] at q0 q1
 have q1:w2.cell? ⟨ad.block,ad.off+1,none⟩=some (.string nm):=by simpa [Addr.add] using q1
 rw [BG]
 have e0:(hd::nm::r).length=r.length+2:=rfl
 rw [e0] at hcap ⊢
 have e2:decide ((r.length:Int)+2<2)=false:=decide_eq_false (by omega)
 have e3:decide ((40:Int)<(nm.size:Int))=false:=decide_eq_false (by omega)
 by_cases hr4:r.length=4
 ·match r,hr4 with
  | [x,y1,y2,y3],_=>
   have q2:=hc 2 (by simp [AC])
   simp only [AC,List.map_cons,List.getElem_cons_zero,List.getElem_cons_succ,CJ] at q2
   have q2:w2.cell? ⟨ad.block,ad.off+2,none⟩=some (.string x):=by simpa [Addr.add] using q2
   have hin2:=GQ (j:=3) (by rw [show (hd::nm::[x,y1,y2,y3]).length=6 from rfl];simpa using hcap) hin
   have e9:(hd::nm::[x,y1,y2,y3]).drop 3=[y1,y2,y3]:=rfl
   rw [e9] at hin2
   obtain ⟨A1,hA1⟩:∃A1,A1=some (if c-3=0 then ad else ad.add 3):=⟨_,rfl⟩
   obtain ⟨c1,hc1⟩:∃c1,c1=c-3:=⟨_,rfl⟩
   rw [<-hA1] at hin2
   have HA1:=AA hA1
   have HC1:=AA hc1
   clear hA1 hc1
   have hcap6:6<=c:=by simpa using hcap
   have cN:=GO A1 c1 [y1,y2,y3] (by simp) (fun z hzz=>hz z (List.mem_cons_of_mem _ hzz)) w2 hin2
   clear c0 hb1 hO hc hr hz e0 hcap hin hin2
   simp only [List.length_cons,List.length_nil,Nat.zero_add,Nat.reduceAdd] at *
   go_wp2_with (refine GP rfl _ _ rfl ad 6 c 3 rfl rfl (by omega) hcap6 A1 3 c1 HA1.out rfl HC1.out ?_;simp only [Act.put,lA1,lZ1,lS1])
   refine cN.mono ?_
   rintro e w3 hp3
   have hB:=HB.out
   cases hp:AL [y1,y2,y3] with
   | none=>
    rw [hp] at hp3
    obtain ⟨rfl,hb3⟩:=hp3
    have f3:=kp hb3 f2
    have HB3:=AA (bB hB hb3)
    have HN:Hid (R=none):=AA (by rw [HR.out,C9,hp])
    clear hp hB hb3 f2 cN q0 q1 q2
    go_wp2_with (first|(refine BC rfl _ _ rfl (.agg AD) #[] (by simp [Act.eval]) (C3 _) ?_;simp only [Act.put,lA1,lZ1,lS1])|(refine AG rfl _ _ _ rfl w.heap.size 48 _ AD rfl rfl f3 (by rw [AE,hzc]) rfl h1 ?_;simp only [Act.put]))
    exact BU rfl rfl f3 BF HB3.out HN.out
   | some xs=>
    rw [hp] at hp3
    have hl3:=G7 hp
    match xs,hl3 with
    | [u,v,n],_=>
     obtain ⟨v3,rfl,hO3,hb3⟩:=hp3
     have f3:=kp hb3 f2
     have HB3:=AA (bB hB hb3)
     obtain ⟨A3,c3,rfl,hr3⟩:=hO3.cr
     have q2:=(hb3.cell (p:=⟨ad.block,ad.off+2,none⟩) (by show ad.block<_;exact hal)).trans q2
     obtain ⟨ad3,rfl,hal3,hc3⟩:=hr3.inV (by simp [AH])
     have p0:=hc3 0 (by simp [AH])
     have p1:=hc3 1 (by simp [AH])
     have p2:=hc3 2 (by simp [AH])
     simp only [AH,List.map_cons,List.getElem_cons_zero,List.getElem_cons_succ,CJ] at p0 p1 p2
     have p1:w3.cell? ⟨ad3.block,ad3.off+1,none⟩=some (.int .i64 v):=by simpa [Addr.add] using p1
     have p2:w3.cell? ⟨ad3.block,ad3.off+2,none⟩=some (.int .i64 n):=by simpa [Addr.add] using p2
     have HN:Hid (R=if 0<CH x then some { ok:=5,qk:=8,qn:=nm,qa:=u,qb:=v,qw:=(CH x:Int),qN:=n } else none):=AA (by rw [HR.out,C9,hp])
     have hal':ad.block<w3.heap.size:=Nat.lt_of_lt_of_le hal hb3.size
     rw [BL]
     simp only [List.length_cons,List.length_nil,Nat.zero_add,Nat.reduceAdd]
     clear hp hB hb3 f2 cN q0 q1 hO3 hr3 hc3 hal
     go_wp2_with fail
     go_loopw [20] (fun v20 wr=>∃(k:Nat),v20=.int .i64 (k:Int)/\1<=k/\k<=6/\Hid (∀j,1<=j->j<k->AW j≠x)/\Hid (Below w3.heap.size w3 wr)) (fun v20 _=>6-(intOf v20).toNat)
     case atStart=>exact ⟨1,rfl,by omega,by omega,AA (fun j h1 h2=>by omega),AA (b0 _)⟩
     case round=>
      obtain ⟨k,rfl,hk1,hk6,HH,HBr⟩:=hrel
      have f4:=kp HBr.out f3
      have HBw:=AA (bB HB3.out HBr.out)
      by_cases hlt:k<=5
      ·have e1:decide ((k:Int)<=5)=true:=decide_eq_true (by omega)
       have QX:∀w0,Below wr.heap.size wr w0->w0.cell? ⟨ad.block,ad.off+2,none⟩=some (.string x):=fun w0 hI=>((bB HBr.out hI).cell (p:=⟨ad.block,ad.off+2,none⟩) hal').trans q2
       have P0:∀w0,Below wr.heap.size wr w0->w0.cell? ad3=some (.int .i64 u):=fun w0 hI=>((bB HBr.out hI).cell (p:=ad3) hal3).trans p0
       have P1:∀w0,Below wr.heap.size wr w0->w0.cell? ⟨ad3.block,ad3.off+1,none⟩=some (.int .i64 v):=fun w0 hI=>((bB HBr.out hI).cell (p:=⟨ad3.block,ad3.off+1,none⟩) hal3).trans p1
       have P2:∀w0,Below wr.heap.size wr w0->w0.cell? ⟨ad3.block,ad3.off+2,none⟩=some (.int .i64 n):=fun w0 hI=>((bB HBr.out hI).cell (p:=⟨ad3.block,ad3.off+2,none⟩) hal3).trans p2
       have cW:=fun W=>GM k (by omega) W
       by_cases hx:AW k=x
       ·have hY:=UT hk1 hlt hx
        have HN2:Hid (R=some { ok:=5,qk:=8,qn:=nm,qa:=u,qb:=v,qw:=(k:Int),qN:=n }):=AA (by rw [HN.out,hY,if_pos (by omega)])
        have ex:=eqT hx
        generalize AW k=K at *
        clear hx hY HH
        have HN3:Hid (R=some { ok:=5,qk:=8,qn:=nm,qa:=u,qb:=v,qw:=(k:Int),qN:=n }):=HN2
        obtain ⟨X,hX⟩:∃X:Array Value,X=#[.int .i64 8,.string nm,.int .i64 u,.int .i64 v,.int .i64 (k:Int),.int .i64 n]:=⟨_,rfl⟩
        obtain ⟨O,hO⟩:∃O,O=OpV.cs ⟨5,0,⟨#[]⟩,0,0,0,none,0,0,8,nm,u,v,(k:Int),n,⟨#[]⟩,0,0⟩:=⟨_,rfl⟩
        obtain ⟨Y,hY⟩:∃Y,Y=AI 1 ⟨5,0,⟨#[]⟩,0,0,0,none,0,0,8,nm,u,v,(k:Int),n,⟨#[]⟩,0,0⟩ 0 none 0 0:=⟨_,rfl⟩
        have bX:=gB nm u v (k:Int) n
        have bO:=UV 8 nm u v (k:Int) n
        have bY:=D9 ⟨5,0,⟨#[]⟩,0,0,0,none,0,0,8,nm,u,v,(k:Int),n,⟨#[]⟩,0,0⟩
        have hYs:Y.size=19:=by rw [hY];rfl
        have hY1:Y.all (·.oneCell')=true:=by rw [hY];exact BB _ _ _ _ _ _
        have HC:Hid (∀W,BI w.heap.size W (.agg Y) { ok:=5,qk:=8,qn:=nm,qa:=u,qb:=v,qw:=(k:Int),qN:=n }):=AA (by rw [hY];exact fun W=>⟨none,0,none,0,rfl,RS.nil _,RS.nil _⟩)
        rw [<-hX] at bX bO
        rw [<-hO] at bO bY
        rw [<-hY] at bY
        clear hX hO hY
        go_wp2_with fail
        refine Abs.wp_region_abs (Abs.cls0 _) [0,1,2,3,4,5] (by kernel_rfl) (by kernel_rfl) (Below.refl _ _).drew ?_
        (refine Abs.step_pure rfl rfl (fun K hK=>?_);go_simp;(try go_bits);(first|refine hK _ _ ?_|(simp only [↓IntWalk.iteOmega];go_simp;(try go_bits);refine hK _ _ ?_));clear hK K)
        (refine Abs.step_call_val (f:=?_) (args:=?_) (v:=?_) rfl rfl rfl rfl (fun w0=>?_) (fun w0 hI=>?_) (fun K hK=>?_);rotate_left 3;(· go_simp;(constructor <;> rfl));(· exact cW _);(simp only [Act.put,lA1,lZ1,lS1];refine hK _ _ ?_;clear hK K))
        iterate 2 (refine Abs.step_pure rfl rfl (fun K hK=>?_);go_simp;(try go_bits);(first|refine hK _ _ ?_|(simp only [↓IntWalk.iteOmega];go_simp;(try go_bits);refine hK _ _ ?_));clear hK K)
        (refine Abs.step_load (v:=?_) rfl rfl (by kernel_rfl) rfl (fun w0 hI=>?_) (fun K hK=>?_);rotate_left;(· have z0:=QX w0 hI;go_simp;rfl);(simp only [Act.put,lA1,lZ1,lS1];refine hK _ _ ?_;clear hK K))
        (refine Abs.step_pure rfl rfl (fun K hK=>?_);go_simp;(try go_bits);(first|refine hK _ _ ?_|(simp only [↓IntWalk.iteOmega];go_simp;(try go_bits);refine hK _ _ ?_));clear hK K)
        (intro w5 hb5 hx0 hx1 hx2;clear hx0 hx1 hx2;simp only [Abs.T_setF,Abs.T_addA,Abs.T_push,Abs.T_start])
        have f5:=kp hb5 f4
        have HB5:=AA (bB HBw.out hb5)
        have R0:∀w0,Below w5.heap.size w5 w0->w0.cell? ad3=some (.int .i64 u):=fun w0 hI=>P0 w0 (bB hb5 hI)
        have R1:∀w0,Below w5.heap.size w5 w0->w0.cell? ⟨ad3.block,ad3.off+1,none⟩=some (.int .i64 v):=fun w0 hI=>P1 w0 (bB hb5 hI)
        have R2:∀w0,Below w5.heap.size w5 w0->w0.cell? ⟨ad3.block,ad3.off+2,none⟩=some (.int .i64 n):=fun w0 hI=>P2 w0 (bB hb5 hI)
        clear P0 P1 P2 QX q2 p0 p1 p2 f4 hb5 cW
        go_wp2_with fail
        refine Abs.wp_region_tail (Abs.cls0 _) [0,1,2,3,4,5,6,7,8,9,10] 11 (by kernel_rfl) (by kernel_rfl) (Below.refl _ _).drew ?_
        iterate 3 (refine Abs.step_pure rfl rfl (fun K hK=>?_);go_simp;(try go_bits);(first|refine hK _ _ ?_|(simp only [↓IntWalk.iteOmega];go_simp;(try go_bits);refine hK _ _ ?_));clear hK K)
        (refine Abs.step_load (v:=?_) rfl rfl (by kernel_rfl) rfl (fun w0 hI=>?_) (fun K hK=>?_);rotate_left;(· have z0:=R0 w0 hI;go_simp;rfl);(simp only [Act.put,lA1,lZ1,lS1];refine hK _ _ ?_;clear hK K))
        iterate 2 (refine Abs.step_pure rfl rfl (fun K hK=>?_);go_simp;(try go_bits);(first|refine hK _ _ ?_|(simp only [↓IntWalk.iteOmega];go_simp;(try go_bits);refine hK _ _ ?_));clear hK K)
        (refine Abs.step_load (v:=?_) rfl rfl (by kernel_rfl) rfl (fun w0 hI=>?_) (fun K hK=>?_);rotate_left;(· have z0:=R1 w0 hI;go_simp;rfl);(simp only [Act.put,lA1,lZ1,lS1];refine hK _ _ ?_;clear hK K))
        iterate 3 (refine Abs.step_pure rfl rfl (fun K hK=>?_);go_simp;(try go_bits);(first|refine hK _ _ ?_|(simp only [↓IntWalk.iteOmega];go_simp;(try go_bits);refine hK _ _ ?_));clear hK K)
        (refine Abs.step_load (v:=?_) rfl rfl (by kernel_rfl) rfl (fun w0 hI=>?_) (fun K hK=>?_);rotate_left;(· have z0:=R2 w0 hI;go_simp;rfl);(simp only [Act.put,lA1,lZ1,lS1];refine hK _ _ ?_;clear hK K))
        intro w6 hI hF hx1 hx2
        clear hx1 hx2 hF
        simp only [Abs.T_setF,Abs.T_addA,Abs.T_push,Abs.T_start,List.drop_succ_cons,List.drop_zero]
        have f6:=kp hI f5
        have HB6:=AA (bB HB5.out hI)
        clear R0 R1 R2 f5 hI
        go_wp2_with (first|(refine BC rfl _ _ rfl (.agg X) #[(0,.int .i64 8),(1,.string nm),(2,.int .i64 u),(3,.int .i64 v),(4,.int .i64 (k:Int)),(5,.int .i64 n)] (by simp [Act.eval]) (bX _) ?_;simp only [Act.put,lA1,lZ1,lS1])|(refine BC rfl _ _ rfl (.agg O) #[(0,.int .i64 5),(2,.agg X)] (by simp [Act.eval]) (bO _) ?_;simp only [Act.put,lA1,lZ1,lS1])|(refine BC rfl _ _ rfl (.agg Y) #[(0,.int .i64 1),(1,.agg O)] (by simp [Act.eval]) (bY _) ?_;simp only [Act.put,lA1,lZ1,lS1])|(refine AG rfl _ _ _ rfl w.heap.size 48 _ Y rfl rfl f6 (by rw [AE,hYs]) (by rw [hYs];rfl) hY1 ?_;simp only [Act.put]))
        exact EQ rfl rfl f6 hYs HB6.out (HC.out _) HN3.out
       ·have ex:=eqF hx
        have HH2:Hid (∀j,1<=j->j<k+1->AW j≠x):=AA (fun j h1 h2=>by
         rcases Nat.lt_or_ge j k with h3|h3
         ·exact HH.out j h1 h3
         ·obtain rfl:j=k:=by omega
          exact hx)
        generalize AW k=K at *
        clear hx HH
        go_wp2_with fail
        refine Abs.wp_region_abs (Abs.cls0 _) [0,1,2,3,4,5] (by kernel_rfl) (by kernel_rfl) (Below.refl _ _).drew ?_
        (refine Abs.step_pure rfl rfl (fun K hK=>?_);go_simp;(try go_bits);(first|refine hK _ _ ?_|(simp only [↓IntWalk.iteOmega];go_simp;(try go_bits);refine hK _ _ ?_));clear hK K)
        (refine Abs.step_call_val (f:=?_) (args:=?_) (v:=?_) rfl rfl rfl rfl (fun w0=>?_) (fun w0 hI=>?_) (fun K hK=>?_);rotate_left 3;(· go_simp;(constructor <;> rfl));(· exact cW _);(simp only [Act.put,lA1,lZ1,lS1];refine hK _ _ ?_;clear hK K))
        iterate 2 (refine Abs.step_pure rfl rfl (fun K hK=>?_);go_simp;(try go_bits);(first|refine hK _ _ ?_|(simp only [↓IntWalk.iteOmega];go_simp;(try go_bits);refine hK _ _ ?_));clear hK K)
        (refine Abs.step_load (v:=?_) rfl rfl (by kernel_rfl) rfl (fun w0 hI=>?_) (fun K hK=>?_);rotate_left;(· have z0:=QX w0 hI;go_simp;rfl);(simp only [Act.put,lA1,lZ1,lS1];refine hK _ _ ?_;clear hK K))
        (refine Abs.step_pure rfl rfl (fun K hK=>?_);go_simp;(try go_bits);(first|refine hK _ _ ?_|(simp only [↓IntWalk.iteOmega];go_simp;(try go_bits);refine hK _ _ ?_));clear hK K)
        (intro w5 hb5 hx0 hx1 hx2;clear hx0 hx1 hx2;simp only [Abs.T_setF,Abs.T_addA,Abs.T_push,Abs.T_start])
        have HB5:=AA (bB HBr.out hb5)
        go_wp2_with fail
        go_roundw
        case rel=>exact ⟨k+1,by go_num,by omega,by omega,HH2,HB5⟩
        case measure=>simp [intOf];omega
      ·have e1:decide ((k:Int)<=5)=false:=decide_eq_false (by omega)
       obtain rfl:k=6:=by omega
       have HN2:Hid (R=none):=AA (by rw [HN.out,UU HH.out,if_neg (by omega)])
       clear HH
       go_wp2_with (first|(refine BC rfl _ _ rfl (.agg AD) #[] (by simp [Act.eval]) (C3 _) ?_;simp only [Act.put,lA1,lZ1,lS1])|(refine AG rfl _ _ _ rfl w.heap.size 48 _ AD rfl rfl f4 (by rw [AE,hzc]) rfl h1 ?_;simp only [Act.put]))
       exact BU rfl rfl f4 BF HBw.out HN2.out
 ·have HN:Hid (R=none):=AA (by
   rw [HR.out]
   match r,hr4 with
   | [],_=>rfl
   | [_],_=>rfl
   | [_,_],_=>rfl
   | [_,_,_],_=>rfl
   | _::_::_::_::_::_,_=>rfl)
  have e5:((r.length:Int)+2 != 6)=true:=by simp;omega
  have e6:((r.length:Int)+2== 6)=false:=by simp;omega
  have e7:decide ((r.length:Int)+2=6)=false:=decide_eq_false (by omega)
  clear c0 hb1 hO hc hr hz e0 HR
  go_wp2_with (first|(refine BC rfl _ _ rfl (.agg AD) #[] (by simp [Act.eval]) (C3 _) ?_;simp only [Act.put,lA1,lZ1,lS1])|(refine AG rfl _ _ _ rfl w.heap.size 48 _ AD rfl rfl f2 (by rw [AE,hzc]) rfl h1 ?_;simp only [Act.put]))
  exact BU rfl rfl f2 BF HB.out HN.out
end Go.Proofs.YtlnonecibpjcoaaGreatDoor
