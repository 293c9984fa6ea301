/- The console at t. -/
import Derived.Test.YtlnonecibpjcoaaGreatDoorRb
set_option linter.all false
set_option maxRecDepth 100000
set_option maxHeartbeats 4000000
namespace Go.Proofs.YtlnonecibpjcoaaGreatDoor
open Go.RowKit
attribute [local go_sem] Oper.semAt_some
def InR (k:Nat) (w:World) (X:Option Addr) (rows:List (List Value)):Prop :=
 0<rows.length->∃ad,X=some ad/\ad.block<w.heap.size/\∀i (hi:i<rows.length) j v,(rows[i])[j]?=some v->w.cell? (ad.add (i*k+j))=some v
theorem InR.below {k:Nat} {w w':World} {X:Option Addr} {rows:List (List Value)} (h:InR k w X rows) (hb:Below w.heap.size w w'):InR k w' X rows:=fun h0=>by
 obtain ⟨ad,e,h1,h2⟩:=h h0
 have hc:∀j,w'.cell? (ad.add j)=w.cell? (ad.add j):=fun j=>hb.cell (p:=ad.add j) (by rw [show (ad.add j).block=ad.block by unfold Addr.add;split <;> rfl];exact h1)
 exact ⟨ad,e,Nat.lt_of_lt_of_le h1 hb.size,fun i hi j v hv=>by rw [hc];exact h2 i hi j v hv⟩
theorem gD:∀l:List Int,(∀x ∈ l,AF x)->CR (l.map AJ)<=l.length*20:=by
 intro l
 induction l with
 | nil=>intro _;simp [CR]
 | cons x l ih=>
  intro h
  have:=ih fun y hy=>h y (by simp [hy])
  have h2:=EI x (h x (by simp))
  simp only [CR,List.map_cons,List.sum_cons,List.length_cons] at *
  omega
structure Bk where
 t:Int
 v:Int
 e:Int
def Bk.l (b:Bk):List Int:=[b.t,b.v,b.e]
def Bk.cs (b:Bk):List Value:=AH b.l
def Ans.rs (a:Ans):List Value:=AH a.l
theorem gE (sep:ByteArray) (ss:List ByteArray):(CQ sep ss).size<=CR ss+ss.length*sep.size:=by
 have:=TF sep.data.toList (ss.map (·.data.toList))
 have e1:((ss.map (·.data.toList)).map List.length).sum=CR ss:=by
  unfold CR
  rw [List.map_map]
  congr 1
 rw [e1,List.length_map] at this
 exact this
def DQ (u:Nat):ByteArray:=⟨(Lib.decDigits u).toArray⟩
theorem UW {u:Nat} (h:u<10):DQ u=⟨#[UInt8.ofNat (48+u)]⟩:=by
 unfold DQ
 rw [Lib.decDigits,dif_pos h]
theorem UX (a b:List UInt8):(⟨a.toArray⟩++⟨b.toArray⟩:ByteArray)=⟨(a++b).toArray⟩:=by
 apply ByteArray.ext
 simp [ByteArray.data_append]
theorem gF {u:Nat} (h:¬u<10):DQ u=DQ (u/10)++⟨#[UInt8.ofNat (48+u%10)]⟩:=by
 unfold DQ
 rw [Lib.decDigits,dif_neg h]
 rw [show (⟨#[UInt8.ofNat (48+u%10)]⟩:ByteArray)=⟨[UInt8.ofNat (48+u%10)].toArray⟩ from rfl,UX]
theorem gG (u:Nat) (h:u<18446744073709551616):(DQ u).size<=20:=by
 have:=PC 19 u (by omega)
 simpa [DQ,ByteArray.size] using this
def LI (n:Int):Nat:=if n<0 then n.natAbs else n.toNat
theorem UY (n:Int):AJ n=if n<0 then ⟨#[45]⟩++DQ (LI n) else DQ (LI n):=by
 unfold AJ Lib.itoa DQ LI
 split
 ·rw [show (⟨#[45]⟩:ByteArray)=⟨[45].toArray⟩ from rfl,UX];rfl
 ·rfl
theorem J5 (w:World) (x:Nat):(convert 135 9 (.slice (some ⟨w.heap.size,0,none⟩) 1 1)).run Tryz.prog (w.alloc (.cells #[.int .u8 (x:Int)] 5))=.ok (.string ⟨#[UInt8.ofNat x]⟩) (w.alloc (.cells #[.int .u8 (x:Int)] 5)):=by
 rw [run_convert_bytes_string _ 135 9 5 _ 1 1 Tryz.underlying135 Tryz.underlying5 Tryz.underlying9]
 refine (run_bytesToString _ ⟨w.heap.size,0,none⟩ 1 1 [(x:Int)] ?_).trans ?_
 ·refine run_loadCells_list (P:=Tryz.prog) _ ⟨w.heap.size,0,none⟩ [.int .u8 (x:Int)] (fun j v hv=>?_)
  have hj:j<1:=(List.getElem?_eq_some_iff.1 hv).1
  have:j=0:=by omega
  subst this
  simp at hv
  subst hv
  exact (cell_of_row _ _ 0 _ _ (0,0) (na w #[.int .u8 (x:Int)] 5))
 ·simp only [List.foldl_cons,List.foldl_nil,Int.toNat_natCast]
  rfl
def LJ (v:Value):Nat:=match v with|.string s=>if s.size=0 then 1 else 0|_=>0
def J6 (m q:Nat) (s:ByteArray):Prop:=(q=m/\s=⟨#[]⟩)∨(0<s.size/\((q=0/\s=DQ m)∨(0<q/\DQ q++s=DQ m)))
theorem NL {m q:Nat} {s:ByteArray} (h:J6 m q s) (hg:0<q∨s=⟨#[]⟩):J6 m (q/10) (⟨#[UInt8.ofNat (48+q%10)]⟩++s):=by
 have hsz:0<((⟨#[UInt8.ofNat (48+q%10)]⟩:ByteArray)++s).size:=by rw [ByteArray.size_append];show 0<1+_;omega
 refine .inr ⟨hsz,?_⟩
 have e0:∀x:ByteArray,x++⟨#[]⟩=x:=fun x=>by apply ByteArray.ext;simp [ByteArray.data_append]
 by_cases hq:q<10
 ·have e1:q/10=0:=by omega
  have e2:q%10=q:=by omega
  rw [e1,e2]
  refine .inl ⟨rfl,?_⟩
  rcases h with ⟨rfl,rfl⟩|⟨hp,⟨rfl,h0⟩|⟨h1,h2⟩⟩
  ·rw [e0,UW hq]
  ·rcases hg with hg|hg
   ·omega
   ·rw [hg] at hp;exact absurd hp (by decide)
  ·rw [<-h2,UW hq]
 ·refine .inr ⟨by omega,?_⟩
  rw [<-ByteArray.append_assoc,<-gF hq]
  rcases h with ⟨rfl,rfl⟩|⟨_,⟨rfl,rfl⟩|⟨h1,h2⟩⟩
  ·rw [e0]
  ·omega
  ·exact h2
theorem UZ {m:Nat} {s:ByteArray} (h:J6 m 0 s) (hs:s≠⟨#[]⟩):s=DQ m:=by
 rcases h with ⟨rfl,rfl⟩|⟨_,⟨_,h⟩|⟨h1,_⟩⟩
 ·exact absurd rfl hs
 ·exact h
 ·omega
theorem U0 {m q:Nat} {s:ByteArray} (h:J6 m q s) (hm:m<18446744073709551616):s.size<=20:=by
 have h1:=gG m hm
 rcases h with ⟨_,rfl⟩|⟨_,⟨_,rfl⟩|⟨_,h2⟩⟩
 ·decide
 ·exact h1
 ·rw [<-h2,ByteArray.size_append] at h1
  omega
theorem NM {s:ByteArray} (h:0<s.size):LJ (.string s)=0:=by
 unfold LJ
 simp only
 rw [if_neg (by omega)]
theorem U1:LJ (.string ⟨#[]⟩)=1:=rfl
theorem gH (n:Int) (hn:AF n) (w:World):Calls Tryz.prog 25 #[.int .i64 n] w fun e w'=>e=.returned (.string (AJ n))/\Below w.heap.size w w':=by
 obtain ⟨h1,h2⟩:=hn
 by_cases hneg:n<0
 ·have e1:IntKind.u64.wrap n=n+18446744073709551616:=by
   simp only [IntKind.wrap,IntKind.bits,IntKind.signed]
   first
    | omega
    | (simp;omega)
  have e2:IntKind.u64.wrap (-(n+18446744073709551616))=-n:=by
   simp only [IntKind.wrap,IntKind.bits,IntKind.signed]
   first
    | omega
    | (simp;omega)
  obtain ⟨m,hm⟩:∃m:Nat,-n=m:=⟨n.natAbs,by omega⟩
  rw [hm] at e2
  have hm2:m<=9223372036854775808:=by omega
  have HI:Hid (AJ n=⟨#[45]⟩++DQ m):=AA (by rw [UY,if_pos hneg];unfold LI;rw [if_pos hneg];congr 2;omega)
  clear hm
  go_enter Tryz.func25,Tryz.ntmps25
  go_wp2_with fail
  go_loopw [3,4] (fun v3 v4 wr=>∃(q:Nat) (s:ByteArray),v3=.int .u64 q/\v4=.string s/\q<=m/\s.size<=1000/\Hid (J6 m q s)/\Below w.heap.size w wr) (fun v3 v4 _=>2*(intOf v3).toNat+LJ v4)
  case atStart=>exact ⟨m,⟨#[]⟩,by simp only [e2],rfl,by omega,by decide,AA (.inl ⟨rfl,rfl⟩),b0 w⟩
  case round=>
   obtain ⟨q,s,rfl,rfl,hq,hs,HD,hb⟩:=hrel
   have hq64:(q:Int)<18446744073709551616:=by omega
   by_cases h0:0<q
   ·have hS:=NL HD.out (.inl h0)
    obtain ⟨x,hx⟩:∃x,x=48+q%10:=⟨_,rfl⟩
    rw [<-hx] at hS
    have HS:=AA hS
    have e5:(48+(q:Int)%10)=(x:Int):=by omega
    have hx8:x<=57:=by omega
    have hcv:=J5 wr x
    obtain ⟨y,hy⟩:∃y:ByteArray,y=⟨#[UInt8.ofNat x]⟩:=⟨_,rfl⟩
    have hy1:y.size=1:=by rw [hy];rfl
    rw [<-hy] at hcv hS
    have HY:=AA hy
    have hnl:(9223372036854775807<y.size+s.size)=False:=by simp only [eq_iff_iff,iff_false];omega
    have HY1:=AA hy1
    have hb':=bA hb (.cells #[.int .u8 (x:Int)] 5)
    have hd:decide (0<q)=true:=decide_eq_true h0
    have hd0:(q=0)=False:=by simp only [eq_iff_iff,iff_false];omega
    have H0:=AA h0
    clear h0 hS hx hy hy1
    go_wp2
    refine ⟨⟨q/10,y++s,by simp,rfl,by omega,?_,?_,hb'⟩,?_⟩
    ·have:=U0 HS.out (by omega)
     rw [HY.out];omega
    ·rw [HY.out];exact HS
    ·rw [NM (s:=y++s) (by rw [ByteArray.size_append,HY1.out];omega)]
     have:=H0.out
     simp only [intOf,Int.toNat_natCast]
     omega
   ·obtain rfl:q=0:=by omega
    clear h0
    by_cases hse:s=⟨#[]⟩
    ·subst hse
     have HS:=AA (NL HD.out (.inr rfl))
     have hcv:(convert 135 9 (.slice (some ⟨wr.heap.size,0,none⟩) 1 1)).run Tryz.prog (wr.alloc (.cells #[.int .u8 48] 5))=.ok (.string ⟨#[48]⟩) (wr.alloc (.cells #[.int .u8 48] 5)):=J5 wr 48
     have hb':=bA hb (.cells #[.int .u8 48] 5)
     go_wp2
     refine ⟨⟨0,_,by simp,rfl,by omega,by decide,HS,hb'⟩,?_⟩
     rw [U1,NM (by decide)]
     simp [intOf]
    ·have HE:=AA (UZ HD.out hse)
     have hdb:(s.toList== [])=false:=by
      rw [ByteArray.toList_eq]
      cases h:s.data.toList with
      | nil=>exact absurd (ByteArray.ext (by simpa using h)) hse
      | cons a l=>rfl
     clear hse
     go_wp2
     go_ret
     exact ⟨by rw [HI.out,HE.out];rfl,hb⟩
 ·obtain ⟨m,rfl⟩:∃m:Nat,n=m:=⟨n.toNat,by omega⟩
  have hm2:m<=9223372036854775808:=by omega
  have HI:Hid (AJ (m:Int)=DQ m):=AA (by rw [UY,if_neg hneg];unfold LI;rw [if_neg hneg];congr 1)
  clear hneg
  go_enter Tryz.func25,Tryz.ntmps25
  go_wp2_with fail
  go_loopw [3,4] (fun v3 v4 wr=>∃(q:Nat) (s:ByteArray),v3=.int .u64 q/\v4=.string s/\q<=m/\s.size<=1000/\Hid (J6 m q s)/\Below w.heap.size w wr) (fun v3 v4 _=>2*(intOf v3).toNat+LJ v4)
  case atStart=>exact ⟨m,⟨#[]⟩,rfl,rfl,by omega,by decide,AA (.inl ⟨rfl,rfl⟩),b0 w⟩
  case round=>
   obtain ⟨q,s,rfl,rfl,hq,hs,HD,hb⟩:=hrel
   have hq64:(q:Int)<18446744073709551616:=by omega
   by_cases h0:0<q
   ·have hS:=NL HD.out (.inl h0)
    obtain ⟨x,hx⟩:∃x,x=48+q%10:=⟨_,rfl⟩
    rw [<-hx] at hS
    have HS:=AA hS
    have e5:(48+(q:Int)%10)=(x:Int):=by omega
    have hx8:x<=57:=by omega
    have hcv:=J5 wr x
    obtain ⟨y,hy⟩:∃y:ByteArray,y=⟨#[UInt8.ofNat x]⟩:=⟨_,rfl⟩
    have hy1:y.size=1:=by rw [hy];rfl
    rw [<-hy] at hcv hS
    have HY:=AA hy
    have hnl:(9223372036854775807<y.size+s.size)=False:=by simp only [eq_iff_iff,iff_false];omega
    have HY1:=AA hy1
    have hb':=bA hb (.cells #[.int .u8 (x:Int)] 5)
    have hd:decide (0<q)=true:=decide_eq_true h0
    have hd0:(q=0)=False:=by simp only [eq_iff_iff,iff_false];omega
    have H0:=AA h0
    clear h0 hS hx hy hy1
    go_wp2
    refine ⟨⟨q/10,y++s,by simp,rfl,by omega,?_,?_,hb'⟩,?_⟩
    ·have:=U0 HS.out (by omega)
     rw [HY.out];omega
    ·rw [HY.out];exact HS
    ·rw [NM (s:=y++s) (by rw [ByteArray.size_append,HY1.out];omega)]
     have:=H0.out
     simp only [intOf,Int.toNat_natCast]
     omega
   ·obtain rfl:q=0:=by omega
    clear h0
    by_cases hse:s=⟨#[]⟩
    ·subst hse
     have HS:=AA (NL HD.out (.inr rfl))
     have hcv:(convert 135 9 (.slice (some ⟨wr.heap.size,0,none⟩) 1 1)).run Tryz.prog (wr.alloc (.cells #[.int .u8 48] 5))=.ok (.string ⟨#[48]⟩) (wr.alloc (.cells #[.int .u8 48] 5)):=J5 wr 48
     have hb':=bA hb (.cells #[.int .u8 48] 5)
     go_wp2
     refine ⟨⟨0,_,by simp,rfl,by omega,by decide,HS,hb'⟩,?_⟩
     rw [U1,NM (by decide)]
     simp [intOf]
    ·have HE:=AA (UZ HD.out hse)
     have hdb:(s.toList== [])=false:=by
      rw [ByteArray.toList_eq]
      cases h:s.data.toList with
      | nil=>exact absurd (ByteArray.ext (by simpa using h)) hse
      | cons a l=>rfl
     clear hse
     go_wp2
     go_ret
     exact ⟨by rw [HI.out,HE.out];rfl,hb⟩
def AQ:List Int->ByteArray
 | []=>⟨#[]⟩
 | n::l=>BP++AJ n++AQ l
theorem gI (x:ByteArray):(⟨#[]⟩:ByteArray)++x=x:=by apply ByteArray.ext;simp [ByteArray.data_append]
theorem J7 (x:ByteArray):x++(⟨#[]⟩:ByteArray)=x:=by apply ByteArray.ext;simp [ByteArray.data_append]
theorem P5 (l m:List Int):AQ (l++m)=AQ l++AQ m:=by
 induction l with
 | nil=>rw [List.nil_append];exact (gI _).symm
 | cons n l ih=>simp only [List.cons_append,AQ,ih,ByteArray.append_assoc]
theorem gJ {l:List Int} {k:Nat} (hk:k<l.length):AQ (l.take (k+1))=AQ (l.take k)++BP++AJ l[k]:=by
 rw [List.take_succ_eq_append_getElem hk,P5]
 simp only [AQ]
 rw [J7,ByteArray.append_assoc]
theorem J8 (l:List Int) (h:∀x ∈ l,AF x):(AQ l).size<=21*l.length:=by
 induction l with
 | nil=>decide
 | cons n l ih=>
  have h1:=ih fun x hx=>h x (by simp [hx])
  have h2:=EI n (h n (by simp))
  have h3:BP.size=1:=rfl
  simp only [AQ,ByteArray.size_append,List.length_cons]
  omega
theorem GR (A:Option Addr) (c:Nat) (l:List Int) (hl:l.length<=1000000) (hi:∀x ∈ l,AF x) (w:World) (hR:InV w A (AH l)) :
  Calls Tryz.prog 26 #[.slice A l.length c] w fun e w'=>e=.returned (.string (AQ l))/\Below w.heap.size w w':=by
 have HI:=AA hi
 have HR:=AA hR
 clear hi hR
 go_enter Tryz.func26,Tryz.ntmps26
 go_wp2_with fail
 go_loopw [4,3] (fun vi vo wr=>∃(k:Nat) (s:ByteArray),vi=.int .i64 k/\vo=.string s/\k<=l.length/\Hid (s=AQ (l.take k))/\Below w.heap.size w wr) (fun vi _ _=>l.length-(intOf vi).toNat)
 case atStart=>exact ⟨0,_,rfl,rfl,by omega,AA (by simp [AQ]),b0 w⟩
 case round=>
  obtain ⟨k,s,rfl,rfl,hk,HS,hb⟩:=hrel
  by_cases hlt:k<l.length
  ·obtain ⟨ad,rfl,-,hc⟩:=(HR.out.below hb) (by rw [BL];omega)
   have q1:=hc k (by rw [BL];omega)
   have e1:(AH l)[k]'(by rw [BL];omega)=.int .i64 l[k]:=by simp [AH]
   rw [e1] at q1
   have HX:=AA (HI.out l[k] (List.getElem_mem hlt))
   have HT:=AA (gJ hlt)
   obtain ⟨x,hx⟩:∃x,x=l[k]:=⟨_,rfl⟩
   rw [<-hx] at q1 HX HT
   clear hc e1 hx
   have hs:s.size<=21000000:=by
    rw [HS.out]
    have:=J8 (l.take k) (fun y hy=>HI.out y (List.mem_of_mem_take hy))
    rw [List.length_take] at this
    omega
   have hn:=EI x HX.out
   have HN:=AA hn
   have hnl:(9223372036854775807<s.size+1)=False:=by simp only [eq_iff_iff,iff_false];omega
   have hnl2:(9223372036854775807<s.size+1+(AJ x).size)=False:=by simp only [eq_iff_iff,iff_false];omega
   clear hn hs
   go_wp2_with fail
   refine (gH x HX.out _).mono ?_
   rintro e w2 ⟨rfl,hb2⟩
   have hB:=bB hb hb2
   go_wp2
   refine ⟨⟨k+1,_,by go_num,rfl,by omega,AA ?_,hB⟩,by simp [intOf];omega⟩
   rw [HT.out,<-HS.out]
   rfl
  ·obtain rfl:k=l.length:=by omega
   have hs:=HS.out
   rw [List.take_length] at hs
   subst hs
   go_wp2
   go_ret
   exact ⟨rfl,hb⟩
theorem InV.of {w:World} {g:Nat} {vs:List Value} {cs:Array Value} {t:TypeId} (h:w.heap[g]?=some (.cells cs t (0,0))) (hc:cs=vs.toArray):InV w (some ⟨g,0,none⟩) vs:=fun h0=>
 ⟨_,rfl,(Array.getElem?_eq_some_iff.1 h).1,fun i hi=>by
  subst hc
  rw [show (⟨g,0,none⟩:Addr).add i=⟨g,i,none⟩ by
   unfold Addr.add
   split
   ·next h0=>simp [h0]
   ·simp]
  rw [cell_of_row _ _ i _ _ (0,0) h]
  simp [hi]⟩
def tailB (sep:ByteArray):List ByteArray->ByteArray
 | []=>⟨#[]⟩
 | y::l=>sep++y++tailB sep l
theorem U2 {a b:ByteArray} (h:a.data.toList=b.data.toList):a=b:=ByteArray.ext (by simpa using h)
theorem J9 (sep:ByteArray):∀(l:List ByteArray) (x:ByteArray),CQ sep (x::l)=x++tailB sep l:=by
 intro l
 induction l with
 | nil=>intro x;apply U2;simp [CQ,Lib.join,tailB,List.intercalate,ByteArray.data_append]
 | cons y l ih=>
  intro x
  have h:=congrArg (fun b:ByteArray=>b.data.toList) (ih y)
  apply U2
  simp only [CQ,Lib.join,tailB,List.map_cons,ByteArray.data_append,Array.toList_append] at *
  simp only [List.intercalate,List.intersperse,List.flatten_cons,List.append_assoc] at *
  rw [h]
theorem U3 (l:List Int):tailB BP (l.map AJ)=AQ l:=by
 induction l with
 | nil=>rfl
 | cons n l ih=>simp only [List.map_cons,tailB,AQ,ih]
end Go.Proofs.YtlnonecibpjcoaaGreatDoor
