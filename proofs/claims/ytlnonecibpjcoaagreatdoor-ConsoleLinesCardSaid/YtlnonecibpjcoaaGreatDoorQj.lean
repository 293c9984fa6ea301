/- The document's a. -/
import Derived.Test.YtlnonecibpjcoaaGreatDoorQc
set_option linter.all false
set_option maxRecDepth 100000
set_option maxHeartbeats 4000000
namespace Go.Proofs.YtlnonecibpjcoaaGreatDoor
open Go.RowKit
attribute [local go_sem] Oper.semAt_some
theorem YP:∀(i n:Nat),C7 (i+1) n=C6 ((n/16 ^ i)%16)::C7 i n
 | 0,n=>by simp [C7]
 | i+1,n=>by
  have ih:=YP i (n/16)
  have e:n/16/16 ^ i=n/16 ^ (i+1):=by rw [Nat.div_div_eq_div_mul,Nat.pow_succ,Nat.mul_comm]
  rw [e] at ih
  show C7 (i+1) (n/16)++[C6 (n%16)]=C6 ((n/16 ^ (i+1))%16)::(C7 i (n/16)++[C6 (n%16)])
  rw [ih]
  rfl
def OU (i n:Nat):ByteArray:=⟨(C7 i n).toArray⟩
theorem tM (i n:Nat):OU (i+1) n=⟨#[C6 ((n/16 ^ i)%16)]⟩++OU i n:=by
 apply ByteArray.ext
 rw [ByteArray.data_append]
 unfold OU
 rw [YP]
 simp
theorem tN (n:Nat) (hn:n<18446744073709551616) (w:World):Calls Tryz.prog 44 #[.int .u64 (n:Int)] w fun e w'=>e=.returned (.string (FO n))/\Below w.heap.size w w':=by
 go_enter Tryz.func44,Tryz.ntmps44
 go_wp2_with fail
 go_loopw [4,3,0,5] (fun v4 v3 v0 v5 wr=>∃(i:Nat) (s:ByteArray) (u:Nat),v4=.int .i64 (i:Int)/\v3=.string s/\v0=.int .u64 (u:Int)/\i<=16/\u<18446744073709551616/\s.size=i/\Hid (s=OU i n/\u=n/16 ^ i)/\Below w.heap.size w wr) (fun v4 _ _ _ _=>16-(intOf v4).toNat)
 case atStart=>exact ⟨0,⟨#[]⟩,n,rfl,rfl,rfl,by omega,hn,rfl,AA ⟨rfl,by simp⟩,b0 w⟩
 case round=>
  obtain ⟨i,s,u,rfl,rfl,rfl,hi,hu,hs,HI,hb⟩:=hrel
  by_cases hlt:i<16
  ·have ei:decide ((i:Int)<16)=true:=decide_eq_true (by omega)
   obtain ⟨q,hq⟩:∃q,q=u%16:=⟨_,rfl⟩
   have eq:(u:Int)%16=(q:Int):=by omega
   have hq16:q<16:=by omega
   have HS:=AA (tM i n)
   rw [<-HI.out.2,<-HI.out.1,<-hq] at HS
   have HU:Hid (u/16=n/16 ^ (i+1)):=AA (by rw [HI.out.2,Nat.div_div_eq_div_mul,Nat.pow_succ])
   clear hq HI
   by_cases h10:q<10
   ·have e10:decide ((q:Int)<10)=true:=decide_eq_true (by omega)
    obtain ⟨x,hx⟩:∃x,x=48+q:=⟨_,rfl⟩
    have ex:(48:Int)+(q:Int)=(x:Int):=by omega
    have hx8:x<=57:=by omega
    have hcv:=J5 wr x
    obtain ⟨y,hy⟩:∃y:ByteArray,y=⟨#[UInt8.ofNat x]⟩:=⟨_,rfl⟩
    have hy1:y.size=1:=by rw [hy];rfl
    rw [<-hy] at hcv
    have HY:Hid (y=⟨#[C6 q]⟩):=AA (by rw [hy,hx];unfold C6;rw [if_pos h10])
    have hnl:(9223372036854775807<y.size+s.size)=False:=by simp only [eq_iff_iff,iff_false];omega
    have HB:=AA (bA hb (.cells #[.int .u8 (x:Int)] 5))
    clear hx hy hb h10
    go_wp2
    refine ⟨⟨i+1,y++s,u/16,by go_num,rfl,by simp,by omega,by omega,by rw [ByteArray.size_append];omega,AA ⟨?_,HU.out⟩,HB.out⟩,by simp [intOf];omega⟩
    rw [HS.out,<-HY.out]
   ·have e10:decide ((q:Int)<10)=false:=decide_eq_false (by omega)
    obtain ⟨x,hx⟩:∃x,x=87+q:=⟨_,rfl⟩
    have ex:(97:Int)+(q:Int)-10=(x:Int):=by omega
    have hx8:x<=102:=by omega
    have hcv:=J5 wr x
    obtain ⟨y,hy⟩:∃y:ByteArray,y=⟨#[UInt8.ofNat x]⟩:=⟨_,rfl⟩
    have hy1:y.size=1:=by rw [hy];rfl
    rw [<-hy] at hcv
    have HY:Hid (y=⟨#[C6 q]⟩):=AA (by rw [hy,hx];unfold C6;rw [if_neg h10])
    have hnl:(9223372036854775807<y.size+s.size)=False:=by simp only [eq_iff_iff,iff_false];omega
    have HB:=AA (bA hb (.cells #[.int .u8 (x:Int)] 5))
    clear hx hy hb h10
    go_wp2
    refine ⟨⟨i+1,y++s,u/16,by go_num,rfl,by simp,by omega,by omega,by rw [ByteArray.size_append];omega,AA ⟨?_,HU.out⟩,HB.out⟩,by simp [intOf];omega⟩
    rw [HS.out,<-HY.out]
  ·obtain rfl:i=16:=by omega
   have HE:=AA HI.out.1
   have hB:=AA hb
   clear hlt HI hb
   go_wp2
   go_ret
   exact ⟨by rw [HE.out];rfl,hB.out⟩
end Go.Proofs.YtlnonecibpjcoaaGreatDoor
