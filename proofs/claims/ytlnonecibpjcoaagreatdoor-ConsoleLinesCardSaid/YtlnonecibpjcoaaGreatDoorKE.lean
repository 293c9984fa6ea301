/- States of the ru. -/
import Derived.Test.YtlnonecibpjcoaaGreatDoorKC
set_option linter.all false
namespace Go.Proofs.Tryz
open Go.Proofs.Ex
noncomputable def SF:AO:=.cells (.node .nil (some (.pointer (some ⟨2038,0,none⟩))) .nil) [(.pointer none)] 1 1 none 278
noncomputable def SG:Tr Value:=(.node (.node (.node (.node (.node .nil (some (.int .u64 (.ofNat 0))) .nil) (some (.int .i64 (.ofNat 1))) .nil) (some (.int .i64 (.ofNat 0))) (.node .nil (some (.int .i64 (.ofNat 0))) .nil)) (some (.int .i64 (.ofNat 0))) (.node (.node .nil (some (.int .i64 (.ofNat 0))) .nil) (some (.int .i64 (.ofNat 0))) (.node .nil (some (.string ⟨#[]⟩)) .nil))) (some (.int .i64 (.ofNat 5))) (.node (.node (.node .nil (some (.string ⟨#[97]⟩)) .nil) (some (.int .i64 (.ofNat 0))) (.node .nil (some (.int .i64 (.ofNat 0))) .nil)) (some (.string ⟨#[]⟩)) (.node (.node .nil (some (.int .i64 (.ofNat 9))) .nil) (some (.slice none 0 0)) (.node .nil (some (.int .i64 (.ofNat 0))) .nil))))
noncomputable def qX:AO:=.cells SG [] 1 16 none 29
noncomputable def qY:AO:=.cells IH II 132 3168 none 231
noncomputable def SH:Tr Value:=(.node (.node (.node (.node (.node (.node .nil (some (.int .u64 (.ofNat 0))) .nil) (some (.int .u64 (.ofNat 2))) .nil) (some (.slice (some ⟨1978,0,none⟩) 24 24)) (.node (.node .nil (some (.int .i64 (.ofNat 0))) .nil) (some (.int .i64 (.ofNat 1))) .nil)) (some (.int .i64 (.ofNat 1))) (.node (.node (.node .nil (some (.int .i64 (.ofNat 0))) .nil) (some (.int .i64 (.ofNat 0))) .nil) (some (.slice none 0 0)) (.node (.node .nil (some (.slice none 0 0)) .nil) (some (.int .i64 (.ofNat 0))) .nil))) (some (.int .u64 (.ofNat 2))) (.node (.node (.node (.node .nil (some (.int .i64 (.ofNat 0))) .nil) (some (.int .i64 (.ofNat 0))) .nil) (some (.int .i64 (.negSucc 0))) (.node (.node .nil (some (.int .i64 (.ofNat 0))) .nil) (some (.int .i64 (.ofNat 0))) .nil)) (some (.slice none 0 0)) (.node (.node (.node .nil (some (.int .i64 (.ofNat 0))) .nil) (some (.int .i64 (.ofNat 0))) .nil) (some (.int .i64 (.ofNat 0))) (.node .nil (some (.string ⟨#[]⟩)) .nil)))) (some (.int .i64 (.ofNat 0))) (.node (.node (.node (.node (.node .nil (some (.int .i64 (.ofNat 0))) .nil) (some (.int .i64 (.ofNat 5))) .nil) (some (.slice none 0 0)) (.node (.node .nil (some (.int .i64 (.ofNat 0))) .nil) (some (.string ⟨#[97]⟩)) .nil)) (some (.slice none 0 0)) (.node (.node (.node .nil (some (.int .i64 (.ofNat 0))) .nil) (some (.int .i64 (.ofNat 0))) .nil) (some (.slice none 0 0)) (.node .nil (some (.int .i64 (.ofNat 0))) .nil))) (some (.slice (some ⟨1818,0,none⟩) 1 33554627470077674389504)) (.node (.node (.node (.node .nil (some (.int .i64 (.ofNat 0))) .nil) (some (.string ⟨#[]⟩)) .nil) (some (.bool false)) (.node (.node .nil (some (.slice none 0 0)) .nil) (some (.int .i64 (.ofNat 9))) .nil)) (some (.bool true)) (.node (.node (.node .nil (some (.int .i64 (.ofNat 0))) .nil) (some (.slice none 0 0)) .nil) (some (.int .u64 (.ofNat 2))) (.node .nil (some (.int .i64 (.ofNat 0))) .nil)))))
noncomputable def qZ:AO:=.cells SH [] 1 44 none 280
noncomputable def a3H:Tr AO:=(.node (.node (.node (.node .nil none (.node .nil none (.node .nil none (.node .nil none (.node .nil none (.node .nil none (.node .nil none (.node .nil (some SF) .nil)))))))) none (.node (.node .nil none (.node .nil none (.node .nil none (.node .nil none (.node .nil none (.node .nil none (.node .nil (some qX) .nil))))))) none .nil)) none .nil) none (.node .nil none (.node (.node .nil none (.node .nil none (.node (.node (.node (.node .nil none (.node .nil none (.node .nil (some ON) .nil))) none .nil) none .nil) none (.node (.node .nil none (.node .nil none (.node .nil none (.node .nil (some qY) .nil)))) none .nil)))) none (.node (.node .nil none (.node .nil none (.node .nil none (.node .nil none (.node .nil none (.node .nil none (.node .nil (some qZ) .nil))))))) none .nil))))
noncomputable def a3A:List Value:=[(.func (.func 174) ⟨[]⟩ ⟨[(.pointer (some ⟨2039,0,none⟩)),(.pointer (some ⟨2035,0,none⟩))]⟩)]
noncomputable def a3S:S:=⟨a3H,2040,173,Tr.nil.setL 0 a3A,7,[.code (MT f173)],[],true,false,none⟩
noncomputable def bt3 (f r:Nat):Option Nat:=cond (Nat.beq f 174 && Nat.beq r 1) (some 5) (cond (Nat.beq f 245 && Nat.beq r 2) (some 10) none)
noncomputable def rA:AO:=.cells SG [] 1 16 none 29
noncomputable def rB:AO:=.cells .nil [(.int .i64 (.ofNat 0))] 1 1 none 30
noncomputable def rC:AO:=.cells .nil [(.int .i64 (.ofNat 0))] 1 1 none 3
noncomputable def rD:AO:=.cells IH II 132 3168 none 231
noncomputable def rE:AO:=.cells SH [] 1 44 none 280
noncomputable def OO:Tr AO:=(.node (.node (.node (.node .nil none (.node .nil none (.node .nil none (.node .nil none (.node .nil none (.node .nil none (.node .nil none (.node .nil (some SF) .nil)))))))) none (.node (.node .nil none (.node .nil none (.node .nil none (.node .nil none (.node .nil none (.node .nil none (.node .nil (some rA) .nil))))))) none .nil)) none (.node (.node .nil none (.node .nil none (.node .nil none (.node .nil none (.node .nil none (.node .nil none (.node .nil none (.node .nil (some rB) .nil)))))))) none .nil)) none (.node (.node (.node .nil none (.node .nil none (.node .nil none (.node .nil none (.node .nil none (.node .nil none (.node .nil none (.node .nil (some rC) .nil)))))))) none .nil) none (.node (.node .nil none (.node .nil none (.node (.node (.node (.node .nil none (.node .nil none (.node .nil (some ON) .nil))) none .nil) none .nil) none (.node (.node .nil none (.node .nil none (.node .nil none (.node .nil (some rD) .nil)))) none .nil)))) none (.node (.node .nil none (.node .nil none (.node .nil none (.node .nil none (.node .nil none (.node .nil none (.node .nil (some rE) .nil))))))) none .nil))))
noncomputable def MY:Value:=(.iface 30 (.int .i64 (.ofNat 372)))
noncomputable def XP:Tr Value:=(.node (.node (.node .nil (some (.pointer (some ⟨2041,0,none⟩))) .nil) none (.node .nil (some (.func (.func 174) ⟨[]⟩ ⟨[(.pointer (some ⟨2039,0,none⟩)),(.pointer (some ⟨2035,0,none⟩))]⟩)) .nil)) (some (.func (.func 174) ⟨[]⟩ ⟨[(.pointer (some ⟨2039,0,none⟩)),(.pointer (some ⟨2035,0,none⟩))]⟩)) (.node (.node .nil (some (.func (.func 240) ⟨[]⟩ ⟨[(.pointer (some ⟨2040,0,none⟩)),(.pointer (some ⟨2041,0,none⟩))]⟩)) .nil) (some (.pointer (some ⟨2040,0,none⟩))) .nil))
noncomputable def MZ:S:=⟨OO,2055,240,Tr.nil.setL 0 [(.pointer (some ⟨2040,0,none⟩)),(.pointer (some ⟨2041,0,none⟩))],10,[.code (MT f240)],[],true,true,none⟩
noncomputable def SI:Tr Value:=(MZ.tm.set 4 MY)
noncomputable def XQ:Tr Value:=(SI.set 2 MY)
noncomputable def rF:S:=⟨OO,2055,240,XQ,10,[.code (GF (MT f240) [1])],[],true,true,none⟩
noncomputable def rG:AO:=.cells SG [] 1 16 none 29
noncomputable def rH:AO:=.cells (.node .nil (some (.int .i64 (.ofNat 372))) .nil) [(.int .i64 (.ofNat 0))] 1 1 none 30
noncomputable def rI:AO:=.cells (.node .nil (some (.int .i64 (.ofNat 0))) .nil) [(.int .i64 (.ofNat 0))] 1 1 none 3
noncomputable def rJ:AO:=.cells IH II 132 3168 none 231
noncomputable def rK:AO:=.cells SH [] 1 44 none 280
noncomputable def OP:Tr AO:=(.node (.node (.node (.node .nil none (.node .nil none (.node .nil none (.node .nil none (.node .nil none (.node .nil none (.node .nil none (.node .nil (some SF) .nil)))))))) none (.node (.node .nil none (.node .nil none (.node .nil none (.node .nil none (.node .nil none (.node .nil none (.node .nil (some rG) .nil))))))) none .nil)) none (.node (.node .nil none (.node .nil none (.node .nil none (.node .nil none (.node .nil none (.node .nil none (.node .nil none (.node .nil (some rH) .nil)))))))) none .nil)) none (.node (.node (.node .nil none (.node .nil none (.node .nil none (.node .nil none (.node .nil none (.node .nil none (.node .nil none (.node .nil (some rI) .nil)))))))) none .nil) none (.node (.node .nil none (.node .nil none (.node (.node (.node (.node .nil none (.node .nil none (.node .nil (some ON) .nil))) none .nil) none .nil) none (.node (.node .nil none (.node .nil none (.node .nil none (.node .nil (some rJ) .nil)))) none .nil)))) none (.node (.node .nil none (.node .nil none (.node .nil none (.node .nil none (.node .nil none (.node .nil none (.node .nil (some rK) .nil))))))) none .nil))))
noncomputable def z3v:Value:=.tuple #[.int .i64 (.ofNat 0),.int .i64 (.ofNat 372)]
theorem rL:RT ⟨MY,OO,2055,XP,[⟨.fn (.func 240) ⟨[(.pointer (some ⟨2040,0,none⟩)),(.pointer (some ⟨2041,0,none⟩))]⟩,⟨[]⟩⟩],true⟩ (MU prog xL6 bt3 (MH prog xL6 5000) 1000 a3S)=true:=by kernel_rfl
theorem rM:FH xL6 a3H 2040 173 a3A false=some a3S:=by kernel_rfl
theorem rN:FH xL6 OO 2055 240 [(.pointer (some ⟨2040,0,none⟩)),(.pointer (some ⟨2041,0,none⟩))] true=some MZ:=by kernel_rfl
theorem rO:CD MZ.tm MZ.nt (some 4) MY=some SI:=by kernel_rfl
theorem rP:CD SI MZ.nt (some 2) MY=some XQ:=by kernel_rfl
theorem rQ:EE (.tuple #[]) OP 2055 (D0 xL6 (MH prog xL6 5000 rF))=true:=by kernel_rfl
theorem rR:GS xL6 XP OP 173=some z3v:=by kernel_rfl
noncomputable def xC3:Lk:={ xL6 with orx:=JJ 173 a3A a3H 2040 z3v OP 2055 xC2.orx }
end Go.Proofs.Tryz
namespace Go.Proofs.Tryz
open Go.Proofs.Ex
def SJ:ByteArray:=⟨#[111,107,10,111,107,10,111,107,10,111,107,32,50,10,111,107,32,53,47,53,32,54,47,54,32,101,57,10,111,107,10,101,114,114,111,114,32,51,55,50,10]⟩
theorem rS:EE (.tuple #[.string SJ,.int .i64 0,.int .i64 0]) .nil 2066 (KY prog xC3 .nil 0 21 [.string SE] 20000)=true:=by kernel_rfl
noncomputable def xC4:Lk:={ xL6 with orx:=JJ 21 [.string SE] .nil 0 (.tuple #[.string SJ,.int .i64 0,.int .i64 0]) .nil 2066 xL6.orx }
end Go.Proofs.Tryz
