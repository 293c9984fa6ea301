/- The document's a. -/
import Derived.Test.YtlnonecibpjcoaaGreatDoorRe
import Derived.Test.YtlnonecibpjcoaaGreatDoorRc
set_option linter.all false
namespace Go.Proofs.YtlnonecibpjcoaaGreatDoor
open Go.RowKit
attribute [local go_sem] Oper.semAt_some
theorem Abs.step_late {P:Program} {l:List Oper} {C:Abs.Cls} {Q:Act->Abs.St->Prop} {rest:List Nat} {i:Nat} {o:Oper} {a:Act} {s:Abs.St} (ho:l[i]?=some o) (hw:Region.wanted o (yielded l.toArray a.tmps)=true) {v:Value}
  (h1:∀w,C.J w->(execOp a.eval o).run P w=.ok (.value v) w) (h2:∀K:Act->Abs.St->Prop,(∀a s,Abs.wpOrd P l.toArray C Q rest a s->K a s)->K (a.put o.dst v) s):Abs.wpOrd P l.toArray C Q (i::rest) a s :=
 Abs.step_does ho (.inl ⟨v,.inr ⟨hw,.inl h1⟩,h2 _ (fun _ _ h=>h)⟩)
theorem A7 {W w0:World} {k:Nat} {cs:Array Value} {t:TypeId} (h:(Abs.cls W (fun _=>False)).J w0) (hc:W.heap[k]?=some (.cells cs t (0,0))):w0.heap[k]?=some (.cells cs t (0,0)) :=
 (h.2 k (Array.getElem?_eq_some_iff.1 hc).1 (fun h=>h)).trans hc
theorem BY {W w0:World} {g:Nat} (h:(Abs.cls W (fun _=>False)).J w0) (hg:W.heap.size<=g) (cs:Array Value):(Abs.cls W (fun _=>False)).J (setRow w0 g cs) :=
 ⟨Nat.le_trans h.1 (NC (Below.refl g w0) (Nat.le_refl _) cs).size,fun k hk _=>(BD cs (by omega)).trans (h.2 k hk (fun h=>h))⟩
theorem BZ {base w0 w1:World} {g:Nat} {t:TypeId} {cs cs':Array Value} (hI:Below base.heap.size base w0) (hg:base.heap.size<=g) (hF:w0.heap[g]?=some (.cells cs t (0,0))) (hT:setRow w0 g cs'=w1) :
  Below base.heap.size base w1/\w1.heap[g]?=some (.cells cs' t (0,0)):=by
 subst hT
 exact ⟨NC hI hg cs',K2 hF⟩
theorem BJ {ρ:Operand->Value} {o:Oper} {t:TypeId} {p x:Operand} {g:Nat} {T:TypeId} {old new:Array Value} {w:World} (ho:o.op=.store t p x) (hp:ρ p=.pointer (some ⟨g,0,none⟩)) (hx:ρ x=.agg new)
  (hg:w.heap[g]?=some (.cells old T (0,0))) (hi:(Tryz.prog.info? t).map (·.size)=some new.size) (hs:old.size=new.size) (h1:new.all (·.oneCell')=true):(execOp ρ o).run Tryz.prog w=.ok .skip (setRow w g new):=by
 unfold execOp
 simp only [ho,hp,hx,Instr.storeAt,Instr.sureAddr,Sem.run_bind,Sem.run_pure,Result.andThen_ok]
 rw [run_storeVar_row w g T t old new hg hi hs h1,TQ]
 rfl
theorem H3:∀ps:List (Int×Int),(AU ps).length=2*ps.length
 | []=>rfl
 | p::ps=>by simp only [AU,List.length_cons,H3 ps];omega
theorem U6:∀(ps:List (Int×Int)) (j:Nat) (h:j<ps.length),(AU ps)[2*j]?=some (.int .i64 ps[j].1)/\(AU ps)[2*j+1]?=some (.int .i64 ps[j].2)
 | [],j,h=>by simp at h
 | p::ps,0,_=>⟨rfl,rfl⟩
 | p::ps,j+1,h=>by
  have ih:=U6 ps j (by simpa using h)
  rw [show 2*(j+1)=2*j+1+1 by omega]
  exact ih
theorem KA {w w0:World} {ad:Addr} {ps:List (Int×Int)} (h:InV w (some ad) (AU ps)) (hb:Below w.heap.size w w0) (j:Nat) (hj:j<ps.length) :
  w0.cell? (ad.add (j*2))=some (.int .i64 ps[j].1)/\w0.cell? { block:=(ad.add (j*2)).block,off:=(ad.add (j*2)).off+1 }=some (.int .i64 ps[j].2):=by
 have hl:=H3 ps
 obtain ⟨ad',e,-,h2⟩:=(h.below hb) (by omega)
 obtain rfl:ad=ad':=Option.some.inj e
 obtain ⟨g0,g1⟩:=U6 ps j hj
 have q0:=h2 (2*j) (by omega)
 have q1:=h2 (2*j+1) (by omega)
 rw [<-List.getElem?_eq_getElem,g0] at q0
 rw [<-List.getElem?_eq_getElem,g1] at q1
 have e1:(ad.add (j*2)).add 1=ad.add (j*2+1):=Go.Deep.add_add _ _ _
 rw [Nat.mul_comm 2 j] at q0 q1
 rw [<-e1] at q1
 exact ⟨q0,q1⟩
end Go.Proofs.YtlnonecibpjcoaaGreatDoor
