/- The console at t. -/
import Derived.Test.YtlnonecibpjcoaaGreatDoorRd
import Derived.MapKept
import Derived.Calls
import Derived.Below
import Derived.Defers
import Derived.Recover
set_option linter.all false
set_option maxRecDepth 100000
set_option maxHeartbeats 4000000
namespace Go.Proofs.YtlnonecibpjcoaaGreatDoor
open Go.RowKit
def CV:ByteArray:=⟨#[115,121,110,99]⟩
def CW:ByteArray:=⟨#[102,108,117,115,104]⟩
def CX:ByteArray:=⟨#[99,111,109,112,97,99,116]⟩
def A8:Nat->MapEntry
 | 0=>⟨.int .i64 2,.string CV,0⟩
 | 1=>⟨.int .i64 3,.string CW,1⟩
 | _=>⟨.int .i64 4,.string CX,2⟩
def es3:Array MapEntry:=#[A8 0,A8 1,A8 2]
structure It3 (m r:Nat) (seen:List Nat) (w:World):Prop where
 mp:w.heap[m]?=some (.map es3 3)
 it:w.heap[r]?=some (.mapIter (some m) 3 seen.toArray 3)
def B1 (seen:Array Nat):Array (Option MapEntry) :=
 let left:=es3.filter fun e=>!seen.contains e.born
 let old:=left.filter (·.born<3)
 let new:=left.filter (·.born≥3)
 (if old.isEmpty then #[none] else #[])++(old++new).map some
def PJ (w w':World):Prop:=w'.heap=w.heap/\w'.os=w.os/\w'.tape=w.tape/\w'.output=w.output
theorem cU (n:Nat) (hn:0<n) (w:World):∃i w',(choose (.mapNext n)).run Tryz.prog w=.ok i w'/\i<n/\PJ w w':=by
 unfold choose
 simp only [Sem.run]
 split
 ·exact ⟨0,w,rfl,hn,rfl,rfl,rfl,rfl⟩
 ·exact ⟨_,_,rfl,by simp only [Question.cut];exact Nat.mod_lt _ hn,rfl,rfl,rfl,rfl⟩
theorem cY (m r:Nat) (seen:Array Nat) (w:World) (h1:w.heap[m]?=some (.map es3 3)) (h2:w.heap[r]?=some (.mapIter (some m) 3 seen 3)) (hC:0<(B1 seen).size) (ty:TypeId) :
  ∃i w',i<(B1 seen).size/\PJ w w'/\(Instr.next (.pointer (some ⟨r,0,none⟩)) false ty).run Tryz.prog w =
   match (B1 seen)[i]? with
   | some (some e)=>.ok (.tuple #[.bool true,e.key,e.val]) { w' with heap:=w'.heap.setIfInBounds r (.mapIter (some m) 3 (seen.push e.born) 3) }
   | some none=>.ok (.tuple #[.bool false]) w'
   | none=>.halt (.stuck "Next: no such candidate") w':=by
 obtain ⟨i,w',hr,hi,hw⟩:=cU (B1 seen).size hC w
 refine ⟨i,w',hi,hw,?_⟩
 have hall:(es3.all fun x=>decide (x.born≥3))=false:=by simp [es3,A8]
 simp only [Instr.next,getObj,setObj,Sem.run_bind,Sem.run,h2,h1,Result.andThen,hall,Bool.and_false,Bool.false_eq_true,if_false]
 have hr':=hr
 unfold B1 at hr'
 simp only at hr'
 rw [hr']
 simp only [Result.andThen]
 show (match (B1 seen)[i]? with|some (some e)=>_|some none=>_|none=>_:Sem Value).run Tryz.prog w'=_
 cases (B1 seen)[i]? with
 | none=>rfl
 | some o=>
  cases o with
  | none=>rfl
  | some e=>
   have h3:w'.heap[r]?=some (.mapIter (some m) 3 seen 3):=by rw [hw.1];exact h2
   simp [Sem.run,h3]
theorem cZ (seen:List Nat):0<(B1 seen.toArray).size/\∀i,i<(B1 seen.toArray).size ->
  (((B1 seen.toArray)[i]?=some none/\0 ∈ seen/\1 ∈ seen/\2 ∈ seen)∨∃k,k<3/\k ∉ seen/\(B1 seen.toArray)[i]?=some (some (A8 k))):=by
 by_cases h0:0 ∈ seen <;> by_cases h1:1 ∈ seen <;> by_cases h2:2 ∈ seen
 ·have e:B1 seen.toArray=#[none]:=by simp [B1,es3,A8,h0,h1,h2]
  rw [e]
  exact ⟨by simp,fun i hi=>.inl ⟨by simp at hi;subst hi;rfl,h0,h1,h2⟩⟩
 ·have e:B1 seen.toArray=#[some (A8 2)]:=by simp [B1,es3,A8,h0,h1,h2]
  rw [e]
  exact ⟨by simp,fun i hi=>.inr ⟨2,by omega,h2,by simp at hi;subst hi;rfl⟩⟩
 ·have e:B1 seen.toArray=#[some (A8 1)]:=by simp [B1,es3,A8,h0,h1,h2]
  rw [e]
  exact ⟨by simp,fun i hi=>.inr ⟨1,by omega,h1,by simp at hi;subst hi;rfl⟩⟩
 ·have e:B1 seen.toArray=#[some (A8 1),some (A8 2)]:=by simp [B1,es3,A8,h0,h1,h2]
  rw [e]
  refine ⟨by simp,fun i hi=>?_⟩
  have:i=0∨i=1:=by simp at hi;omega
  rcases this with rfl|rfl
  ·exact .inr ⟨1,by omega,h1,rfl⟩
  ·exact .inr ⟨2,by omega,h2,rfl⟩
 ·have e:B1 seen.toArray=#[some (A8 0)]:=by simp [B1,es3,A8,h0,h1,h2]
  rw [e]
  exact ⟨by simp,fun i hi=>.inr ⟨0,by omega,h0,by simp at hi;subst hi;rfl⟩⟩
 ·have e:B1 seen.toArray=#[some (A8 0),some (A8 2)]:=by simp [B1,es3,A8,h0,h1,h2]
  rw [e]
  refine ⟨by simp,fun i hi=>?_⟩
  have:i=0∨i=1:=by simp at hi;omega
  rcases this with rfl|rfl
  ·exact .inr ⟨0,by omega,h0,rfl⟩
  ·exact .inr ⟨2,by omega,h2,rfl⟩
 ·have e:B1 seen.toArray=#[some (A8 0),some (A8 1)]:=by simp [B1,es3,A8,h0,h1,h2]
  rw [e]
  refine ⟨by simp,fun i hi=>?_⟩
  have:i=0∨i=1:=by simp at hi;omega
  rcases this with rfl|rfl
  ·exact .inr ⟨0,by omega,h0,rfl⟩
  ·exact .inr ⟨1,by omega,h1,rfl⟩
 ·have e:B1 seen.toArray=#[some (A8 0),some (A8 1),some (A8 2)]:=by simp [B1,es3,A8,h0,h1,h2]
  rw [e]
  refine ⟨by simp,fun i hi=>?_⟩
  have:i=0∨i=1∨i=2:=by simp at hi;omega
  rcases this with rfl|rfl|rfl
  ·exact .inr ⟨0,by omega,h0,rfl⟩
  ·exact .inr ⟨1,by omega,h1,rfl⟩
  ·exact .inr ⟨2,by omega,h2,rfl⟩
theorem dA (m r:Nat) (seen:List Nat) (w:World) (h1:w.heap[m]?=some (.map es3 3)) (h2:w.heap[r]?=some (.mapIter (some m) 3 seen.toArray 3)) (ty:TypeId) :
  ∃w',PJ w w'/\((0 ∈ seen/\1 ∈ seen/\2 ∈ seen/\(Instr.next (.pointer (some ⟨r,0,none⟩)) false ty).run Tryz.prog w=.ok (.tuple #[.bool false]) w') ∨
   ∃k,k<3/\k ∉ seen/\(Instr.next (.pointer (some ⟨r,0,none⟩)) false ty).run Tryz.prog w=.ok (.tuple #[.bool true,(A8 k).key,(A8 k).val]) { w' with heap:=w'.heap.setIfInBounds r (.mapIter (some m) 3 (seen++[k]).toArray 3) }):=by
 obtain ⟨hC,hall⟩:=cZ seen
 obtain ⟨i,w',hi,hw,hrun⟩:=cY m r seen.toArray w h1 h2 hC ty
 refine ⟨w',hw,?_⟩
 rcases hall i hi with ⟨e,a,b,c⟩|⟨k,hk,hn,e⟩
 ·rw [e] at hrun
  exact .inl ⟨a,b,c,hrun⟩
 ·rw [e] at hrun
  refine .inr ⟨k,hk,hn,?_⟩
  rw [hrun]
  have:(A8 k).born=k:=by
   match k,hk with
   | 0,_=>rfl
   | 1,_=>rfl
   | 2,_=>rfl
  simp [this]
open Go
theorem TV (a b:ByteArray):(a== b)=decide (a=b):=by
 by_cases h:a=b
 ·subst h
  rw [decide_eq_true rfl]
  obtain ⟨a⟩:=a
  show (a== a)=true
  simp
 ·rw [decide_eq_false h]
  obtain ⟨a⟩:=a
  obtain ⟨b⟩:=b
  show (a== b)=false
  have:a≠b:=fun e=>h (by rw [e])
  simpa using this
def D5:List (ByteArray×Value)->Nat->List MapEntry
 | [],_=>[]
 | (s,v)::l,i=>{ key:=.string s,val:=v,born:=i }::D5 l (i+1)
theorem TW (s:ByteArray) (v:Value):∀(l:List (ByteArray×Value)) (i:Nat),D5 (l++[(s,v)]) i=D5 l i++[{ key:=.string s,val:=v,born:=i+l.length }]
 | [],i=>rfl
 | (t,u)::l,i=>by
  simp only [List.cons_append,D5,TW s v l (i+1),List.length_cons]
  rw [show i+1+l.length=i+(l.length+1) by omega]
def DV (s:ByteArray):List (ByteArray×Value)->Option Value
 | []=>none
 | (t,v)::l=>if s=t then some v else DV s l
theorem PK (s:ByteArray):∀(l:List (ByteArray×Value)) (i j:Nat),∃r,Instr.findNow .string (.string s) (D5 l i) j=some r/\r.map (·.2)=DV s l
 | [],_,_=>⟨none,rfl,rfl⟩
 | (t,v)::l,i,j=>by
  simp only [D5,Instr.findNow,Instr.sameNow,DV]
  by_cases h:s=t
  ·subst h
   refine ⟨some (j,v),?_,by simp⟩
   simp [TV]
  ·obtain ⟨r,h1,h2⟩:=PK s l (i+1) (j+1)
   refine ⟨r,?_,by rw [if_neg h];exact h2⟩
   simp [TV,h,h1]
theorem TX {s:ByteArray}:∀{l:List (ByteArray×Value)},s ∉ l.map (·.1)->DV s l=none
 | [],_=>rfl
 | (t,v)::l,h=>by
  simp only [List.map_cons,List.mem_cons,not_or] at h
  simp only [DV,if_neg h.1]
  exact TX h.2
def FX (w:World) (b:Nat) (l:List (ByteArray×Value)):Prop:=w.heap[b]?=some (.map (D5 l 0).toArray l.length)
variable {P:Program}
theorem dB (mty kt et:TypeId) (b:Nat) (l:List (ByteArray×Value)) (s:ByteArray) (v:Value) (w:World) (hm:P.underlying mty=some (.map kt et)) (hk:P.underlying kt=some .string) (h:FX w b l) (hs:s ∉ l.map (·.1)) :
  (Instr.mapUpdate mty (.map (some b)) (.string s) v).run P w=.ok () { w with heap:=w.heap.setIfInBounds b (.map (D5 (l++[(s,v)]) 0).toArray (l++[(s,v)]).length) }:=by
 obtain ⟨r,h1,h2⟩:=PK s l 0 0
 rw [TX hs] at h2
 have hr:r=none:=by
  cases r with
  | none=>rfl
  | some x=>cases h2
 subst hr
 have hc:(Instr.checkKey false 10000 kt (.string s)).run P w=.ok () w:=MapKept.run_checkKey (k:=.string s) hk (by simp [MapKept.IsKey]) false 9999
 have h':w.heap[b]?=some (.map (D5 l 0).toArray l.length):=h
 simp [Instr.mapUpdate,run_underlying hm,MapKept.run_getObj_map h',hc,MapKept.run_findKey hk h1,MapKept.run_setObj_map _ h',Result.andThen,TW]
theorem dC (mty kt et:TypeId) (b:Nat) (l:List (ByteArray×Value)) (s:ByteArray) (w:World) (hm:P.underlying mty=some (.map kt et)) (hk:P.underlying kt=some .string) (zv:Value) (hz:(zeroValue et).run P w=.ok zv w) (h:FX w b l) :
  (Instr.lookup mty (.map (some b)) (.string s) true).run P w=.ok (match DV s l with|some v=>.tuple #[v,.bool true]|none=>.tuple #[zv,.bool false]) w:=by
 obtain ⟨r,h1,h2⟩:=PK s l 0 0
 have hc:∀em,(Instr.checkKey em 10000 kt (.string s)).run P w=.ok () w:=fun em=>MapKept.run_checkKey (k:=.string s) hk (by simp [MapKept.IsKey]) em 9999
 have h':w.heap[b]?=some (.map (D5 l 0).toArray l.length):=h
 rw [<-h2]
 cases r with
 | none=>simp [Instr.lookup,run_underlying hm,MapKept.run_getObj_map h',hc,MapKept.run_findKey hk h1,Result.andThen,hz]
 | some x=>simp [Instr.lookup,run_underlying hm,MapKept.run_getObj_map h',hc,MapKept.run_findKey hk h1,Result.andThen]
inductive Head where
 | fn (n:Nat)
 | one (k:Int)
 | span (k:Int)
 deriving DecidableEq
def DO:ByteArray:=⟨#[99,114,101,97,116,101]⟩
def DI:ByteArray:=⟨#[100,114,111,112]⟩
def CL:ByteArray:=⟨#[97,112,112,101,110,100]⟩
def DP:ByteArray:=⟨#[114,101,116,97,105,110]⟩
def EP:ByteArray:=⟨#[114,101,97,100]⟩
def B2:ByteArray:=⟨#[112,111,119,101,114]⟩
def B3:ByteArray:=⟨#[99,114,97,115,104]⟩
def LA:List (ByteArray×Head):=[(DO,.fn 58),(DI,.fn 59),(CL,.fn 60),(DP,.fn 61),(EP,.fn 62),(wAt,.fn 63),(E7,.fn 64),(B2,.fn 65),(B3,.fn 66),
 (CV,.one 2),(CW,.one 3),(CX,.one 4),(CG,.span 1),(CK,.span 2),(CU,.span 3),(C1,.span 4),(C8,.span 5),(EN,.span 7)]
def IX (s:ByteArray):List (ByteArray×Head)->Option Head
 | []=>none
 | (t,h)::l=>if s=t then some h else IX s l
def B9 (s:ByteArray):Option Head:=IX s LA
theorem TY {s:ByteArray} {h:Head}:∀{l:List (ByteArray×Head)},IX s l=some h->s ∈ l.map (·.1)
 | [],e=>by cases e
 | (t,u)::l,e=>by
  simp only [IX] at e
  by_cases hs:s=t
  ·subst hs;simp
  ·rw [if_neg hs] at e
   simp only [List.map_cons]
   exact List.mem_cons_of_mem _ (TY e)
def F9 (g:Nat) (w:World) (v:Value):Head->Prop
 | .fn n=>v=.func (.func n) #[.pointer (some ⟨g,0,none⟩)] #[]
 | .one k=>∃q,v=.func (.func 67) #[] #[.pointer (some ⟨q,0,none⟩)]/\w.heap[q]?=some (.cells #[.int .i64 k] 3 (0,0))
 | .span k=>∃p q,v=.func (.func 70) #[] #[.pointer (some ⟨p,0,none⟩),.pointer (some ⟨q,0,none⟩)]/\w.heap[p]?=some (.cells #[.pointer (some ⟨g,0,none⟩)] 79 (0,0))/\w.heap[q]?=some (.cells #[.int .i64 k] 3 (0,0))
theorem F9.mono {g:Nat} {w w':World} {v:Value} {h:Head} (hf:F9 g w v h) (hk:∀(q:Nat) (cs:Array Value) (t:TypeId),w.heap[q]?=some (Obj.cells cs t (0,0))->w'.heap[q]?=some (Obj.cells cs t (0,0))):F9 g w' v h:=by
 cases h with
 | fn n=>exact hf
 | one k=>
  obtain ⟨q,h1,h2⟩:=hf
  exact ⟨q,h1,hk _ _ _ h2⟩
 | span k=>
  obtain ⟨p,q,h1,h2,h3⟩:=hf
  exact ⟨p,q,h1,hk _ _ _ h2,hk _ _ _ h3⟩
def NG (g:Nat) (w:World) (s:ByteArray) (v:Value):Prop:=∃h,B9 s=some h/\F9 g w v h
theorem CM {w:World} {b:Nat} {o:Obj} (h:w.heap[b]?=some o):b<w.heap.size:=by
 rcases Nat.lt_or_ge b w.heap.size with h1|h1
 ·exact h1
 ·rw [Array.getElem?_eq_none h1] at h;cases h
structure Beg (g p b:Nat) (w0 w:World) (l:List (ByteArray×Value)):Prop where
 bl:Below w0.heap.size w0 w
 hp:w.heap[p]?=some (.cells #[.pointer (some ⟨g,0,none⟩)] 79 (0,0))
 mp:FX w b l
 kb:w0.heap.size<=b
 gd:∀s v,(s,v) ∈ l->NG g w s v
theorem Beg.below {g p b:Nat} {w0 w w':World} {l:List (ByteArray×Value)} (h:Beg g p b w0 w l) (hb:Below w.heap.size w w'):Beg g p b w0 w' l :=
 ⟨bB h.bl hb,kp hb h.hp,(hb.block b (CM h.mp)).trans h.mp,h.kb,fun s v hm=>by
  obtain ⟨hd,h1,h2⟩:=h.gd s v hm
  exact ⟨hd,h1,F9.mono h2 fun q cs t hq=>kp hb hq⟩⟩
theorem Beg.turn {g p b r:Nat} {w0 w w':World} {l l':List (ByteArray×Value)} (h:Beg g p b w0 w l) (hx:Exc r w w') (hr:w0.heap.size<=r) (hn:∀(cs:Array Value) (t:TypeId),w.heap[r]?≠some (Obj.cells cs t (0,0))) (hm:FX w' b l') (hl:∀s v,(s,v) ∈ l'->(s,v) ∈ l∨NG g w s v):Beg g p b w0 w' l':=by
 have hk:∀(q:Nat) (cs:Array Value) (t:TypeId),w.heap[q]?=some (Obj.cells cs t (0,0))->w'.heap[q]?=some (Obj.cells cs t (0,0)):=fun q cs t hq=>by
  have hne:q≠r:=by
   rintro rfl
   exact hn _ _ hq
  rw [hx.other q (CM hq) hne]
  exact hq
 refine ⟨bG h.bl hx.low hr,hk _ _ _ h.hp,hm,h.kb,fun s v hv=>?_⟩
 rcases hl s v hv with h1|⟨hd,h1,h2⟩
 ·obtain ⟨hd,h2,h3⟩:=h.gd s v h1
  exact ⟨hd,h2,F9.mono h3 hk⟩
 ·exact ⟨hd,h1,F9.mono h2 hk⟩
def dD:Obj->Bool
 | .cells ..=>false
 | _=>true
theorem Beg.turnO {g p b r:Nat} {w0 w w':World} {l:List (ByteArray×Value)} {o:Obj} (h:Beg g p b w0 w l) (hx:Exc r w w') (hr:w0.heap.size<=r) (ho:w.heap[r]?=some o) (hn:dD o=true) (hne:b≠r):Beg g p b w0 w' l :=
 h.turn hx hr (fun cs t e=>by rw [ho] at e;injection e with e;subst e;cases hn) ((hx.other b (CM h.mp) hne).trans h.mp) fun s v hv=>.inl hv
theorem PL (w:World) (b:Nat) (o:Obj) (hb:b<w.heap.size):Exc b w { w with heap:=w.heap.setIfInBounds b o } :=
 ⟨Nat.le_of_lt hb,⟨rfl,rfl,rfl,by simp,fun k hk=>by simp only [Array.getElem?_setIfInBounds];rw [if_neg (by omega)]⟩,by simp,fun k _ hk=>by simp only [Array.getElem?_setIfInBounds];rw [if_neg (fun e=>hk e.symm)]⟩
theorem PO (w:World) (o:Obj) (n:Nat) (hn:n=w.heap.size):(w.alloc o).heap[n]?=some o:=by subst hn;show (w.heap.push o)[w.heap.size]?=some o;exact Array.getElem?_push_size
theorem Beg.start (g:Nat) (w:World):Beg g w.heap.size (w.heap.size+1) w ((w.alloc (.cells #[.pointer (some ⟨g,0,none⟩)] 79)).alloc (.map #[] 0)) [] :=
 ⟨bA (bA (b0 w) _) _,kp (bA (b0 _) _) (na w #[.pointer (some ⟨g,0,none⟩)] 79),PO _ _ _ (by simp),Nat.le_succ _,fun s v h=>by cases h⟩
def DW (s:ByteArray) (K:List ByteArray):Bool:=K.all fun t=>!decide (s=t)
theorem dE {s:ByteArray} {K:List ByteArray} (h:DW s K=true):s ∉ K:=fun hm=>by
 have:=List.all_eq_true.1 h s hm
 simp at this
theorem G6 {ops:Array Oper} {rest:List Oper} {o:Oper} {a:Act} {w:World} {Q:Exit->Act->World->Prop} (hgd:o.guard=none) (m k x:Operand) (ho:o.op=.mapUpdate 86 m k x∨o.op=.insert 86 m k x)
  (g p b:Nat) (w0:World) (l:List (ByteArray×Value)) (K:List ByteArray) (s:ByteArray) (v:Value) (hm:a.eval m=.map (some b)) (hk:a.eval k=.string s) (hx:a.eval x=v)
  (hB:Beg g p b w0 w l) (hK:l.map (·.1)=K) (hs:DW s K=true) (hf:NG g w s v)
  (h:∀W l',Beg g p b w0 W l'->l'.map (·.1)=K++[s]->Exc b w W->W.heap.size=w.heap.size->wpList Tryz.prog ops Q rest (a.put o.dst undef) W):wpList Tryz.prog ops Q (o::rest) a w:=by
 have hrun:=dB (P:=Tryz.prog) 86 9 84 b l s v w Tryz.underlying86 Tryz.underlying9 hB.mp (by rw [hK];exact dE hs)
 have hx':=PL w b (.map (D5 (l++[(s,v)]) 0).toArray (l++[(s,v)]).length) (CM hB.mp)
 have hMP:FX { w with heap:=w.heap.setIfInBounds b (.map (D5 (l++[(s,v)]) 0).toArray (l++[(s,v)]).length) } b (l++[(s,v)]):=by
  unfold FX
  simp only [Array.getElem?_setIfInBounds,if_pos (CM hB.mp)]
  simp
 have hsz:({ w with heap:=w.heap.setIfInBounds b (.map (D5 (l++[(s,v)]) 0).toArray (l++[(s,v)]).length) }:World).heap.size=w.heap.size:=by simp
 generalize ({ w with heap:=w.heap.setIfInBounds b (.map (D5 (l++[(s,v)]) 0).toArray (l++[(s,v)]).length) }:World)=W at *
 have hnew:=h W (l++[(s,v)]) (hB.turn hx' hB.kb (fun cs t e=>by have:=hB.mp;unfold FX at this;rw [e] at this;cases this) hMP (fun s' v' hv=>by
  rcases List.mem_append.1 hv with h1|h1
  ·exact .inl h1
  ·simp only [List.mem_singleton,Prod.mk.injEq] at h1
   obtain ⟨rfl,rfl⟩:=h1
   exact .inr hf)) (by simp [hK]) hx' hsz
 refine wpList_plain hgd fun _ hKK=>?_
 unfold Oper.wp execOp
 rcases ho with ho|ho <;> simp only [ho,hm,hk,hx,Sem.run_bind,Sem.run_pure,Result.andThen_ok,hrun] <;> exact hKK _ _ hnew
attribute [local go_sem] Oper.semAt_some
def DX:List ByteArray:=[DO,DI,CL,DP,EP,wAt,E7,B2,B3]
theorem dF (b k:Nat) (hk:k<3) (w:World) (h:w.heap[b]?=some (.map (es3.extract 0 k) k)) :
  (Instr.mapUpdate 139 (.map (some b)) (A8 k).key (A8 k).val).run Tryz.prog w=.ok () { w with heap:=w.heap.setIfInBounds b (.map (es3.extract 0 (k+1)) (k+1)) }:=by
 have hc:∀z,(Instr.checkKey false 10000 3 (.int .i64 z)).run Tryz.prog w=.ok () w:=fun z=>MapKept.run_checkKey (k:=.int .i64 z) Tryz.underlying3 (by simp [MapKept.IsKey]) false 9999
 have hu:Tryz.prog.underlying 139=some (.map 3 9):=Tryz.underlying139
 match k,hk with
 | 0,_=>
  have hf:Instr.findNow (.int .i64) (.int .i64 2) ([]:List MapEntry) 0=some none:=rfl
  simp [es3,A8] at h ⊢
  simp [Instr.mapUpdate,run_underlying hu,MapKept.run_getObj_map h,hc,MapKept.run_findKey Tryz.underlying3 hf,MapKept.run_setObj_map _ h,Result.andThen]
 | 1,_=>
  have hf:Instr.findNow (.int .i64) (.int .i64 3) [A8 0] 0=some none:=by simp [Instr.findNow,Instr.sameNow,A8]
  simp [es3,A8] at h ⊢
  simp [A8] at hf
  simp [Instr.mapUpdate,run_underlying hu,MapKept.run_getObj_map h,hc,MapKept.run_findKey Tryz.underlying3 hf,MapKept.run_setObj_map _ h,Result.andThen]
 | 2,_=>
  have hf:Instr.findNow (.int .i64) (.int .i64 4) [A8 0,A8 1] 0=some none:=by simp [Instr.findNow,Instr.sameNow,A8]
  simp [es3,A8] at h ⊢
  simp [A8] at hf
  simp [Instr.mapUpdate,run_underlying hu,MapKept.run_getObj_map h,hc,MapKept.run_findKey Tryz.underlying3 hf,MapKept.run_setObj_map _ h,Result.andThen]
theorem dG {ops:Array Oper} {rest:List Oper} {o:Oper} {a:Act} {w:World} {Q:Exit->Act->World->Prop} (hgd:o.guard=none) (b n:Nat) (hB:w.heap[b]?=some (.map (es3.extract 0 n) n)) (m k x:Operand) (ho:o.op=.insert 139 m k x)
  (hm:a.eval m=.map (some b)) (hk:a.eval k=(A8 n).key) (hx:a.eval x=(A8 n).val) (hn:n<3)
  (h:∀W,W.heap[b]?=some (.map (es3.extract 0 (n+1)) (n+1))->Exc b w W->W.heap.size=w.heap.size->wpList Tryz.prog ops Q rest (a.put o.dst undef) W):wpList Tryz.prog ops Q (o::rest) a w:=by
 have hrun:=dF b n hn w hB
 have hx':=PL w b (.map (es3.extract 0 (n+1)) (n+1)) (CM hB)
 have hnew:=h { w with heap:=w.heap.setIfInBounds b (.map (es3.extract 0 (n+1)) (n+1)) } (by simp only [Array.getElem?_setIfInBounds,if_pos (CM hB)];simp) hx' (by simp)
 refine wpList_plain hgd fun _ hKK=>?_
 unfold Oper.wp execOp
 simp only [ho,hm,hk,hx,Sem.run_bind,Sem.run_pure,Result.andThen_ok,hrun]
 exact hKK _ _ hnew
theorem dH (m:Nat) (w:World) (h:w.heap[m]?=some (.map es3 3)):(Instr.range 139 (.map (some m))).run Tryz.prog w=.ok (.pointer (some ⟨w.heap.size,0,none⟩)) (w.alloc (.mapIter (some m) 3 [].toArray 3)):=by
 have hu:Tryz.prog.underlying 139=some (.map 3 9):=Tryz.underlying139
 simp [Instr.range,run_underlying hu,MapKept.run_getObj_map h,Result.andThen,newObj,Sem.run]
def DD:Nat->ByteArray
 | 0=>CV
 | 1=>CW
 | _=>CX
def LB:Nat->Int
 | 0=>2
 | 1=>3
 | _=>4
theorem dI (k:Nat):(A8 k).key=.int .i64 (LB k):=by
 match k with
 | 0=>rfl
 | 1=>rfl
 | _+2=>rfl
theorem dJ (k:Nat):(A8 k).val=.string (DD k):=by
 match k with
 | 0=>rfl
 | 1=>rfl
 | _+2=>rfl
theorem dK {k:Nat} (hk:k<3):B9 (DD k)=some (.one (LB k)):=by
 match k,hk with
 | 0,_=>rfl
 | 1,_=>rfl
 | 2,_=>rfl
theorem dL {k:Nat} (hk:k<3) {seen:List Nat} (h3:∀j ∈ seen,j<3) (hn:k ∉ seen):DW (DD k) (DX++seen.map DD)=true:=by
 unfold DW
 rw [List.all_eq_true]
 intro s hs
 have hne:∀j,j<3->j≠k->¬DD k=DD j:=by
  intro j hj hjk
  match k,hk,j,hj with
  | 0,_,0,_=>exact absurd rfl hjk
  | 0,_,1,_=>intro e;cases e
  | 0,_,2,_=>intro e;cases e
  | 1,_,0,_=>intro e;cases e
  | 1,_,1,_=>exact absurd rfl hjk
  | 1,_,2,_=>intro e;cases e
  | 2,_,0,_=>intro e;cases e
  | 2,_,1,_=>intro e;cases e
  | 2,_,2,_=>exact absurd rfl hjk
 rcases List.mem_append.1 hs with h1|h1
 ·have:DW (DD k) DX=true:=by
   match k,hk with
   | 0,_=>rfl
   | 1,_=>rfl
   | 2,_=>rfl
  exact List.all_eq_true.1 this s h1
 ·obtain ⟨j,hj,rfl⟩:=List.mem_map.1 h1
  have:=hne j (h3 j hj) (fun e=>hn (by rw [<-e];exact hj))
  simp [this]
def LC (seen:List Nat):Nat:=(if 0 ∈ seen then 0 else 1)+(if 1 ∈ seen then 0 else 1)+(if 2 ∈ seen then 0 else 1)
def J1 (r:Nat) (w:World):Nat:=match w.heap[r]? with|some (.mapIter _ _ s _)=>LC s.toList|_=>0
theorem dM {seen:List Nat} {k:Nat} (hk:k<3) (hn:k ∉ seen):LC (seen++[k])<LC seen:=by
 unfold LC
 have h3:k=0∨k=1∨k=2:=by omega
 rcases h3 with rfl|rfl|rfl <;> simp [hn] <;> (repeat' split) <;> omega
theorem dN {ops:Array Oper} {rest:List Oper} {o:Oper} {a:Act} {w:World} {Q:Exit->Act->World->Prop} (hgd:o.guard=none) (x:Operand) (ho:o.op=.next x false)
  (m r:Nat) (seen:List Nat) (hx:a.eval x=.pointer (some ⟨r,0,none⟩)) (h1:w.heap[m]?=some (.map es3 3)) (h2:w.heap[r]?=some (.mapIter (some m) 3 seen.toArray 3)) (hmr:m≠r)
  (hend:0 ∈ seen->1 ∈ seen->2 ∈ seen->∀W,Below w.heap.size w W->wpList Tryz.prog ops Q rest (a.put o.dst (.tuple #[.bool false])) W)
  (hnx:∀k W,k<3->k ∉ seen->Exc r w W->W.heap.size=w.heap.size->W.heap[m]?=some (.map es3 3)->W.heap[r]?=some (.mapIter (some m) 3 (seen++[k]).toArray 3)->wpList Tryz.prog ops Q rest (a.put o.dst (.tuple #[.bool true,(A8 k).key,(A8 k).val])) W) :
  wpList Tryz.prog ops Q (o::rest) a w:=by
 obtain ⟨w',⟨hh,ho1,ht,hou⟩,hc⟩:=dA m r seen w h1 h2 o.type
 refine wpList_plain hgd fun _ hKK=>?_
 unfold Oper.wp execOp
 simp only [ho,hx,Sem.run_bind,Sem.run_pure,Result.andThen_ok]
 rcases hc with ⟨a0,a1,a2,hrun⟩|⟨k,hk,hn,hrun⟩
 ·rw [hrun]
  exact hKK _ _ (hend a0 a1 a2 w' ⟨ho1,ht,hou,Nat.le_of_eq (by rw [hh]),fun q _=>by rw [hh]⟩)
 ·rw [hrun]
  have hlt:=CM h2
  have hx0:=PL w' r (.mapIter (some m) 3 (seen++[k]).toArray 3) (by rw [hh];exact hlt)
  refine hKK _ _ (hnx k _ hk hn ?_ (by simp [hh]) ?_ ?_)
  ·refine ⟨Nat.le_of_lt hlt,⟨hx0.low.os.trans ho1,hx0.low.tape.trans ht,hx0.low.output.trans hou,by simp [hh],fun q hq=>?_⟩,by simp [hh],fun q hq hne=>?_⟩
   ·simp only [Array.getElem?_setIfInBounds];rw [if_neg (by omega),hh]
   ·simp only [Array.getElem?_setIfInBounds];rw [if_neg (fun e=>hne e.symm),hh]
  ·simp only [Array.getElem?_setIfInBounds];rw [if_neg (fun e=>hmr e.symm),hh];exact h1
  ·simp only [Array.getElem?_setIfInBounds];rw [if_pos trivial,if_pos (by rw [hh];exact hlt)]
theorem dO {ops:Array Oper} {rest:List Oper} {o:Oper} {a:Act} {w:World} {Q:Exit->Act->World->Prop} (hgd:o.guard=none) (x:Operand) (ho:o.op=.entry x)
  (m r:Nat) (seen:List Nat) (k:Nat) (hk:k<3) (hx:a.eval x=.pointer (some ⟨r,0,none⟩)) (h1:w.heap[m]?=some (.map es3 3)) (h2:w.heap[r]?=some (.mapIter (some m) 3 (seen++[k]).toArray 3))
  (h:wpList Tryz.prog ops Q rest (a.put o.dst (.tuple #[(A8 k).key,(A8 k).val])) w):wpList Tryz.prog ops Q (o::rest) a w:=by
 have hrun:(Instr.entry (.pointer (some ⟨r,0,none⟩))).run Tryz.prog w=.ok (.tuple #[(A8 k).key,(A8 k).val]) w:=by
  have hb:(seen++[k]).toArray.back?=some k:=by simp
  have hf:es3.find? (·.born== k)=some (A8 k):=by
   match k,hk with
   | 0,_=>rfl
   | 1,_=>rfl
   | 2,_=>rfl
  simp only [Instr.entry,getObj,Sem.run_bind,Sem.run,h2,h1,Result.andThen,hb,bne_self_eq_false,Bool.false_eq_true,if_false,hf]
  rfl
 refine wpList_plain hgd fun _ hKK=>?_
 unfold Oper.wp execOp
 simp only [ho,hx,Sem.run_bind,Sem.run_pure,Result.andThen_ok,hrun]
 exact hKK _ _ h
def FA:List ByteArray:=[CG,CK,CU,C1,C8,EN]
def D6:Nat->List ByteArray
 | 0=>[]
 | 1=>[]
 | 2=>[CG]
 | 3=>[CG,CK]
 | 4=>[CG,CK,CU]
 | 5=>[CG,CK,CU,C1]
 | 6=>[CG,CK,CU,C1,C8]
 | 7=>[CG,CK,CU,C1,C8]
 | _=>[CG,CK,CU,C1,C8,EN]
theorem dP:∀t ∈ FA,∀j,j<3->¬t=DD j:=by
 have h:FA.all (fun t=>!decide (t=CV) && !decide (t=CW) && !decide (t=CX))=true:=by rfl
 intro t ht j hj e
 have:=List.all_eq_true.1 h t ht
 simp only [Bool.and_eq_true,Bool.not_eq_true',decide_eq_false_iff_not] at this
 match j,hj with
 | 0,_=>exact this.1.1 e
 | 1,_=>exact this.1.2 e
 | 2,_=>exact this.2 e
theorem dQ:∀t ∈ FA,DW t DX=true:=by
 have h:FA.all (fun t=>DW t DX)=true:=by rfl
 exact fun t ht=>List.all_eq_true.1 h t ht
theorem dR {seen:List Nat} (a0:0 ∈ seen) (a1:1 ∈ seen) (a2:2 ∈ seen) {t:ByteArray} {h:Head} (e:B9 t=some h):t ∈ (DX++seen.map DD)++D6 9:=by
 have hm:=TY e
 have hs:LA.map (·.1)=DX++([CV,CW,CX]++D6 9):=rfl
 rw [hs] at hm
 rcases List.mem_append.1 hm with h1|h1
 ·exact List.mem_append_left _ (List.mem_append_left _ h1)
 ·rcases List.mem_append.1 h1 with h2|h2
  ·refine List.mem_append_left _ (List.mem_append_right _ ?_)
   simp only [List.mem_cons,List.not_mem_nil,or_false] at h2
   rcases h2 with rfl|rfl|rfl
   ·exact List.mem_map.2 ⟨0,a0,rfl⟩
   ·exact List.mem_map.2 ⟨1,a1,rfl⟩
   ·exact List.mem_map.2 ⟨2,a2,rfl⟩
  ·exact List.mem_append_right _ h2
theorem dS (k:Nat) (hk:k<9) (w:World):(Instr.index 141 (.agg (AC DN).toArray) (.int .i64 (k:Int))).run Tryz.prog w=.ok (.string (DN.getD k ⟨#[]⟩)) w:=by
 have h9:k=0∨k=1∨k=2∨k=3∨k=4∨k=5∨k=6∨k=7∨k=8:=by omega
 rcases h9 with rfl|rfl|rfl|rfl|rfl|rfl|rfl|rfl|rfl <;> rfl
theorem J2 {t:ByteArray} {a b:List ByteArray} (h1:DW t a=true) (h2:DW t b=true):DW t (a++b)=true:=by
 unfold DW at *
 rw [List.all_append,h1,h2]
 rfl
theorem TZ {s:ByteArray} {v:Value}:∀{l:List (ByteArray×Value)},DV s l=some v->(s,v) ∈ l
 | [],e=>by cases e
 | (t,u)::l,e=>by
  simp only [DV] at e
  by_cases h:s=t
  ·rw [if_pos h] at e
   injection e with e
   subst h;subst e
   exact List.mem_cons_self
  ·rw [if_neg h] at e
   exact List.mem_cons_of_mem _ (TZ e)
theorem T1 {s:ByteArray}:∀{l:List (ByteArray×Value)},s ∈ l.map (·.1)->∃v,DV s l=some v
 | [],e=>by cases e
 | (t,u)::l,e=>by
  simp only [DV]
  by_cases h:s=t
  ·exact ⟨u,by rw [if_pos h]⟩
  ·simp only [List.map_cons,List.mem_cons] at e
   rw [if_neg h]
   exact T1 (e.resolve_left h)
theorem dT (g:Nat) (w:World):Calls Tryz.prog 34 #[.pointer (some ⟨g,0,none⟩)] w fun e w'=>∃b l,e=.returned (.map (some b))/\Below w.heap.size w w'/\FX w' b l/\(∀s v,DV s l=some v->NG g w' s v)/\(∀s h,B9 s=some h->∃v,DV s l=some v):=by
 have hmf:∀(fn:Fn) (first cap:Array Value) (w:World),(Instr.makeFunc fn first cap).run Tryz.prog w=.ok (.func fn first cap) w:=fun _ _ _ _=>rfl
 have hmm:∀w1:World,(Instr.makeMap 86 none).run Tryz.prog w1=.ok (.map (some w1.heap.size)) (w1.alloc (.map #[] 0)):=fun _=>rfl
 have hB:=Beg.start g w
 have hK:([]:List (ByteArray×Value)).map (·.1)=[]:=rfl
 obtain ⟨l,hl⟩:∃l:List (ByteArray×Value),l=[]:=⟨_,rfl⟩
 rw [<-hl] at hB hK
 clear hl
 obtain ⟨z1,z2,z3⟩:=AB hB.hp
 go_enter Tryz.func34,Tryz.ntmps34
 go_wp2_with (refine G6 rfl _ _ _ (.inr rfl) g w.heap.size (w.heap.size+1) w l _ _ _ rfl rfl rfl hB hK (by rfl) ⟨_,rfl,rfl⟩ ?_;clear hB hK z1 z2 z3 l;intro W l hB hK hX hS;obtain ⟨z1,z2,z3⟩:=AB hB.hp;clear hX hS)
 have hm2:(Instr.makeMap 139 none).run Tryz.prog W=.ok (.map (some W.heap.size)) (W.alloc (.map #[] 0)):=rfl
 have hM:(W.alloc (.map #[] 0)).heap[W.heap.size]?=some (.map (es3.extract 0 0) 0):=PO W (.map #[] 0) _ rfl
 have hbm:w.heap.size+1<W.heap.size:=CM hB.mp
 replace hB:=hB.below (bA (b0 W) (.map #[] 0))
 rw [hm2]
 generalize W.heap.size=m at *
 generalize W.alloc (.map #[] 0)=W1 at *
 clear hm2 z1 z2 z3
 go_wp2_with (refine dG rfl m _ hM _ _ _ rfl rfl rfl rfl (by decide) ?_;intro W1 hM2 hX hS;replace hB:=hB.turnO hX (by omega) hM rfl (by omega);replace hM:=hM2;clear hM2 hX hS)
 rw [dH m W1 hM]
 have hR:=PO W1 (.mapIter (some m) 3 [].toArray 3) _ rfl
 have hmr:m<W1.heap.size:=CM hM
 replace hM:(W1.alloc (.mapIter (some m) 3 [].toArray 3)).heap[m]?=some (.map es3 3):=((bA (b0 W1) _).block m hmr).trans hM
 replace hB:=hB.below (bA (b0 W1) (.mapIter (some m) 3 [].toArray 3))
 replace hK:l.map (·.1)=DX++[].map DD:=hK
 generalize W1.heap.size=r at *
 generalize W1.alloc (.mapIter (some m) 3 [].toArray 3)=W2 at *
 have HI:=AA (show Beg g w.heap.size (w.heap.size+1) w W2 l/\W2.heap[m]?=some (.map es3 3)/\W2.heap[r]?=some (.mapIter (some m) 3 [].toArray 3)/\l.map (·.1)=DX++[].map DD from ⟨hB,hM,hR,hK⟩)
 clear hB hM hR hK
 go_wp2_with fail
 go_loopw [] (fun wr=>∃(seen:List Nat) (l:List (ByteArray×Value)),Hid (Beg g w.heap.size (w.heap.size+1) w wr l/\wr.heap[m]?=some (.map es3 3)/\wr.heap[r]?=some (.mapIter (some m) 3 seen.toArray 3)/\l.map (·.1)=DX++seen.map DD)/\(∀j ∈ seen,j<3)) (fun wr=>J1 r wr)
 case atStart=>exact ⟨[],l,HI,by simp⟩
 case round=>
  clear HI l
  obtain ⟨seen,l,HI,h3⟩:=hrel
  obtain ⟨hB,hM,hR,hK⟩:=HI.out
  have HZ:=AA (show J1 r wr=LC seen by unfold J1;rw [hR])
  have hB0:∀W3,Exc r wr W3->Beg g w.heap.size (w.heap.size+1) w W3 l:=fun W3 hX=>hB.turnO hX (by omega) hR rfl (by omega)
  go_wp2_with (first
   | (refine dN rfl _ rfl m r seen rfl hM hR (by omega) ?_ ?_;(intro a0 a1 a2 W3 hb3);rotate_right;(intro k W3 hk hn hX hS hM3 hR3;have hB3:=hB0 W3 hX;clear hB hM hR HI hB0 hX hS))
   | (refine dO rfl _ rfl m r seen k hk rfl hM3 hR3 ?_;simp only [dI,dJ])
   | (refine G6 rfl _ _ _ (.inl rfl) g w.heap.size (w.heap.size+1) w l _ _ _ rfl rfl rfl (hB3.below (bA (b0 W3) _)) hK (dL hk h3 hn) ⟨.one (LB k),dK hk,W3.heap.size,rfl,na W3 _ 3⟩ ?_;intro W5 l5 hB5 hK5 hX5 hS5))
  ·have hM4:(W3.alloc (.cells #[.int .i64 (LB k)] 3)).heap[m]?=some (.map es3 3):=((bA (b0 W3) _).block m (CM hM3)).trans hM3
   have hR4:(W3.alloc (.cells #[.int .i64 (LB k)] 3)).heap[r]?=some (.mapIter (some m) 3 (seen++[k]).toArray 3):=((bA (b0 W3) _).block r (CM hR3)).trans hR3
   have hM5:=(hX5.other m (CM hM4) (by omega)).trans hM4
   have hR5:=(hX5.other r (CM hR4) (by omega)).trans hR4
   have HJ:=AA (show Beg g w.heap.size (w.heap.size+1) w W5 l5/\W5.heap[m]?=some (.map es3 3)/\W5.heap[r]?=some (.mapIter (some m) 3 (seen++[k]).toArray 3)/\l5.map (·.1)=DX++(seen++[k]).map DD from ⟨hB5,hM5,hR5,by rw [hK5];simp⟩)
   have hms:J1 r W5<J1 r wr:=by
    rw [HZ.out]
    unfold J1
    rw [hR5]
    exact dM hk hn
   clear hM4 hR4 hM5 hR5 hB5 hK5 hX5 hS5
   exact ⟨⟨_,_,_,_,_,_,_,_,_,_,⟨seen++[k],l5,HJ,fun j hj=>(List.mem_append.1 hj).elim (h3 j) fun h=>by simp at h;omega⟩,rfl⟩,hms⟩
  ·replace hB:=hB.below hb3
   replace hB:=hB
   have hn3:∀t,(∀j,j<3->¬t=DD j)->DW t DX=true->DW t (DX++seen.map DD)=true:=fun t h1 h2=>by
    unfold DW at h2 ⊢
    rw [List.all_append,h2,Bool.true_and,List.all_eq_true]
    intro x hx
    obtain ⟨j,hj,rfl⟩:=List.mem_map.1 hx
    simp [h1 j (h3 j hj)]
   have hN:∀t ∈ FA,DW t (DX++seen.map DD)=true:=fun t ht=>hn3 t (dP t ht) (dQ t ht)
   have hall:∀t h,B9 t=some h->t ∈ (DX++seen.map DD)++D6 9:=fun t h e=>dR a0 a1 a2 e
   generalize DX++seen.map DD=K0 at *
   refine (PH _).mono ?_
   rintro e W6 ⟨rfl,hb6⟩
   replace hB:=hB.below hb6
   have HJ:=AA (show Beg g w.heap.size (w.heap.size+1) w W6 l/\l.map (·.1)=K0++D6 0 from ⟨hB,by rw [hK];exact (List.append_nil _).symm⟩)
   have hix:=dS
   have HN:=AA hN
   have HA:=AA hall
   generalize (AC DN).toArray=Y at *
   clear hB hK hM hR HI HZ hB0 hb3 hb6 a0 a1 a2 h3 hn3 hN hall
   go_wp2_with fail
   go_loopw [40] (fun v wr=>∃(k:Nat) (l:List (ByteArray×Value)),v=.int .i64 (k:Int)/\k<=9/\Hid (Beg g w.heap.size (w.heap.size+1) w wr l/\l.map (·.1)=K0++D6 k)) (fun v wr=>9-(intOf v).toNat)
   case atStart=>exact ⟨0,l,rfl,by omega,HJ⟩
   case round=>
    clear HJ l
    obtain ⟨k,l,rfl,hk,HI⟩:=hrel
    obtain ⟨hB,hK⟩:=HI.out
    have hN:=HN.out
    obtain ⟨z1,z2,z3⟩:=AB hB.hp
    have h9:k=0∨k=1∨k=2∨k=3∨k=4∨k=5∨k=6∨k=7∨k=8∨k=9:=by omega
    rcases h9 with rfl|rfl|rfl|rfl|rfl|rfl|rfl|rfl|rfl|rfl
    ·have hi:∀w,(Instr.index 141 (.agg Y) (.int .i64 0)).run Tryz.prog w=.ok (.string ⟨#[]⟩) w:=fun w=>hix 0 (by omega) w
     go_wp2_with fail
     have HJ:=AA (show Beg g w.heap.size (w.heap.size+1) w _ l/\l.map (·.1)=K0++D6 1 from ⟨hB.below (bA (b0 wr) (.cells #[.int .i64 0] 3)),hK⟩)
     exact ⟨⟨1,l,rfl,by omega,HJ⟩,by decide⟩
    ·have hi:∀w,(Instr.index 141 (.agg Y) (.int .i64 1)).run Tryz.prog w=.ok (.string CG) w:=fun w=>hix 1 (by omega) w
     go_wp2_with (refine G6 rfl _ _ _ (.inl rfl) g w.heap.size (w.heap.size+1) w l _ CG _ rfl rfl rfl (hB.below (bA (b0 wr) _)) hK (J2 (hN CG (by simp [FA])) rfl) ⟨.span 1,rfl,w.heap.size,wr.heap.size,rfl,kp (bA (b0 wr) (.cells #[.int .i64 1] 3)) hB.hp,na wr _ 3⟩ ?_;intro W5 l5 hB5 hK5 hX5 hS5)
     have HJ:=AA (show Beg g w.heap.size (w.heap.size+1) w W5 l5/\l5.map (·.1)=K0++D6 2 from ⟨hB5,by rw [hK5,List.append_assoc];rfl⟩)
     exact ⟨⟨2,l5,rfl,by omega,HJ⟩,by decide⟩
    ·have hi:∀w,(Instr.index 141 (.agg Y) (.int .i64 2)).run Tryz.prog w=.ok (.string CK) w:=fun w=>hix 2 (by omega) w
     go_wp2_with (refine G6 rfl _ _ _ (.inl rfl) g w.heap.size (w.heap.size+1) w l _ CK _ rfl rfl rfl (hB.below (bA (b0 wr) _)) hK (J2 (hN CK (by simp [FA])) rfl) ⟨.span 2,rfl,w.heap.size,wr.heap.size,rfl,kp (bA (b0 wr) (.cells #[.int .i64 2] 3)) hB.hp,na wr _ 3⟩ ?_;intro W5 l5 hB5 hK5 hX5 hS5)
     have HJ:=AA (show Beg g w.heap.size (w.heap.size+1) w W5 l5/\l5.map (·.1)=K0++D6 3 from ⟨hB5,by rw [hK5,List.append_assoc];rfl⟩)
     exact ⟨⟨3,l5,rfl,by omega,HJ⟩,by decide⟩
    ·have hi:∀w,(Instr.index 141 (.agg Y) (.int .i64 3)).run Tryz.prog w=.ok (.string CU) w:=fun w=>hix 3 (by omega) w
     go_wp2_with (refine G6 rfl _ _ _ (.inl rfl) g w.heap.size (w.heap.size+1) w l _ CU _ rfl rfl rfl (hB.below (bA (b0 wr) _)) hK (J2 (hN CU (by simp [FA])) rfl) ⟨.span 3,rfl,w.heap.size,wr.heap.size,rfl,kp (bA (b0 wr) (.cells #[.int .i64 3] 3)) hB.hp,na wr _ 3⟩ ?_;intro W5 l5 hB5 hK5 hX5 hS5)
     have HJ:=AA (show Beg g w.heap.size (w.heap.size+1) w W5 l5/\l5.map (·.1)=K0++D6 4 from ⟨hB5,by rw [hK5,List.append_assoc];rfl⟩)
     exact ⟨⟨4,l5,rfl,by omega,HJ⟩,by decide⟩
    ·have hi:∀w,(Instr.index 141 (.agg Y) (.int .i64 4)).run Tryz.prog w=.ok (.string C1) w:=fun w=>hix 4 (by omega) w
     go_wp2_with (refine G6 rfl _ _ _ (.inl rfl) g w.heap.size (w.heap.size+1) w l _ C1 _ rfl rfl rfl (hB.below (bA (b0 wr) _)) hK (J2 (hN C1 (by simp [FA])) rfl) ⟨.span 4,rfl,w.heap.size,wr.heap.size,rfl,kp (bA (b0 wr) (.cells #[.int .i64 4] 3)) hB.hp,na wr _ 3⟩ ?_;intro W5 l5 hB5 hK5 hX5 hS5)
     have HJ:=AA (show Beg g w.heap.size (w.heap.size+1) w W5 l5/\l5.map (·.1)=K0++D6 5 from ⟨hB5,by rw [hK5,List.append_assoc];rfl⟩)
     exact ⟨⟨5,l5,rfl,by omega,HJ⟩,by decide⟩
    ·have hi:∀w,(Instr.index 141 (.agg Y) (.int .i64 5)).run Tryz.prog w=.ok (.string C8) w:=fun w=>hix 5 (by omega) w
     go_wp2_with (refine G6 rfl _ _ _ (.inl rfl) g w.heap.size (w.heap.size+1) w l _ C8 _ rfl rfl rfl (hB.below (bA (b0 wr) _)) hK (J2 (hN C8 (by simp [FA])) rfl) ⟨.span 5,rfl,w.heap.size,wr.heap.size,rfl,kp (bA (b0 wr) (.cells #[.int .i64 5] 3)) hB.hp,na wr _ 3⟩ ?_;intro W5 l5 hB5 hK5 hX5 hS5)
     have HJ:=AA (show Beg g w.heap.size (w.heap.size+1) w W5 l5/\l5.map (·.1)=K0++D6 6 from ⟨hB5,by rw [hK5,List.append_assoc];rfl⟩)
     exact ⟨⟨6,l5,rfl,by omega,HJ⟩,by decide⟩
    ·have hi:∀w,(Instr.index 141 (.agg Y) (.int .i64 6)).run Tryz.prog w=.ok (.string wAt) w:=fun w=>hix 6 (by omega) w
     go_wp2_with fail
     have HJ:=AA (show Beg g w.heap.size (w.heap.size+1) w _ l/\l.map (·.1)=K0++D6 7 from ⟨hB.below (bA (b0 wr) (.cells #[.int .i64 6] 3)),hK⟩)
     exact ⟨⟨7,l,rfl,by omega,HJ⟩,by decide⟩
    ·have hi:∀w,(Instr.index 141 (.agg Y) (.int .i64 7)).run Tryz.prog w=.ok (.string EN) w:=fun w=>hix 7 (by omega) w
     go_wp2_with (refine G6 rfl _ _ _ (.inl rfl) g w.heap.size (w.heap.size+1) w l _ EN _ rfl rfl rfl (hB.below (bA (b0 wr) _)) hK (J2 (hN EN (by simp [FA])) rfl) ⟨.span 7,rfl,w.heap.size,wr.heap.size,rfl,kp (bA (b0 wr) (.cells #[.int .i64 7] 3)) hB.hp,na wr _ 3⟩ ?_;intro W5 l5 hB5 hK5 hX5 hS5)
     have HJ:=AA (show Beg g w.heap.size (w.heap.size+1) w W5 l5/\l5.map (·.1)=K0++D6 8 from ⟨hB5,by rw [hK5,List.append_assoc];rfl⟩)
     exact ⟨⟨8,l5,rfl,by omega,HJ⟩,by decide⟩
    ·have hi:∀w,(Instr.index 141 (.agg Y) (.int .i64 8)).run Tryz.prog w=.ok (.string E7) w:=fun w=>hix 8 (by omega) w
     go_wp2_with fail
     have HJ:=AA (show Beg g w.heap.size (w.heap.size+1) w _ l/\l.map (·.1)=K0++D6 9 from ⟨hB.below (bA (b0 wr) (.cells #[.int .i64 8] 3)),hK⟩)
     exact ⟨⟨9,l,rfl,by omega,HJ⟩,by decide⟩
    ·go_wp2_with fail
     go_ret
     have hA:=HA.out
     exact ⟨_,l,rfl,hB.bl,hB.mp,fun s v hv=>hB.gd s v (TZ hv),fun s h e=>T1 (by rw [hK];exact hA s h e)⟩
def DE (s:ByteArray):List ByteArray:=Lib.splitB ⟨#[32]⟩ 0 (Lib.countB s ⟨#[32]⟩) s
theorem T3 (s:ByteArray):(DE s).length=Lib.countB s ⟨#[32]⟩+1:=Lib.splitB_all _ (by decide) 0 _ s rfl
theorem T4 (s:ByteArray) (a b:Nat):(s.extract a b).size<=s.size:=by
 have:(s.extract a b).size=min b s.size-a:=ByteArray.size_extract
 omega
theorem T5 (sep:ByteArray):∀(k:Nat) (s:ByteArray),∀x ∈ Lib.splitB sep 0 k s,x.size<=s.size
 | 0,s,x,h=>by simp only [Lib.splitB,List.mem_singleton] at h;subst h;exact Nat.le_refl _
 | k+1,s,x,h=>by
  unfold Lib.splitB at h
  split at h
  ·simp only [List.mem_singleton] at h;subst h;exact Nat.le_refl _
  ·rcases List.mem_cons.1 h with rfl|h
   ·exact T4 _ _ _
   ·exact Nat.le_trans (T5 sep k _ x h) (T4 _ _ _)
theorem dU (s:ByteArray):∀x ∈ DE s,x.size<=s.size:=T5 _ _ s
def DF:Head->List ByteArray->Option (Cm×List ByteArray)
 | .fn n=>fun l=>if n=58 then FW l else if n=59 then JZ l else if n=60 then E6 l else if n=61 then K8 l else if n=62 then J0 l else if n=63 then pAt l else if n=64 then E9 l else if n=65 then IW l else if n=66 then E5 l else none
 | .one k=>fun l=>some ({ ok:=k },l)
 | .span k=>EK k
theorem PP {s:ByteArray} {h:Head}:∀{l:List (ByteArray×Head)},IX s l=some h->h ∈ l.map (·.2)
 | [],e=>by cases e
 | (t,u)::l,e=>by
  simp only [IX] at e
  by_cases hs:s=t
  ·rw [if_pos hs] at e
   injection e with e
   subst e
   simp
  ·rw [if_neg hs] at e
   simp only [List.map_cons]
   exact List.mem_cons_of_mem _ (PP e)
theorem dV {s:ByteArray} {n:Nat} (hs:B9 s=some (.fn n)) (g:Nat) (ws:List ByteArray) (w:World) (h:Wd g ws w):Calls Tryz.prog n #[.pointer (some ⟨g,0,none⟩)] w (RPm g (DF (.fn n) ws) w):=by
 have hm:=PP hs
 simp only [LA,List.map_cons,List.map_nil,List.mem_cons,List.not_mem_nil,or_false,Head.fn.injEq,reduceCtorEq,or_self] at hm
 rcases hm with rfl|rfl|rfl|rfl|rfl|rfl|rfl|rfl|rfl
 ·exact bR g ws w h
 ·exact bF g ws w h
 ·exact cK g ws w h
 ·exact bT g ws w h
 ·exact bV g ws w h
 ·exact bU g ws w h
 ·exact cQ g ws w h
 ·exact cC g ws w h
 ·exact cI g ws w h
theorem dW {s:ByteArray} {n:Nat} (hs:B9 s=some (.fn n)) (args:Array Value) (w:World):(callFunc n args).run Tryz.prog w=.ok (.enter n args) w:=by
 have hm:=PP hs
 simp only [LA,List.map_cons,List.map_nil,List.mem_cons,List.not_mem_nil,or_false,Head.fn.injEq,reduceCtorEq,or_self] at hm
 rcases hm with rfl|rfl|rfl|rfl|rfl|rfl|rfl|rfl|rfl
 ·exact Tryz.call58 args w
 ·exact Tryz.call59 args w
 ·exact Tryz.call60 args w
 ·exact Tryz.call61 args w
 ·exact Tryz.call62 args w
 ·exact Tryz.call63 args w
 ·exact Tryz.call64 args w
 ·exact Tryz.call65 args w
 ·exact Tryz.call66 args w
def FY (ws:List ByteArray):Option Cm :=
 match ws with
 | []=>none
 | s::l=>match B9 s with
  | none=>none
  | some h=>match DF h l with
   | none=>none
   | some (c,l')=>if l'=[] then some c else none
def AZ (s:ByteArray):Option Cm :=
 if CT s.data.toList then (if 0<=B8 (DE s) ⟨#[]⟩ 0 then none else FY (DE s)) else none
def RPl (r:Option Cm) (w:World) (e:Ending) (w':World):Prop :=
 match r with
 | some c=>∃v,e=.returned v/\BI w.heap.size w' v c/\Below w.heap.size w w'
 | none=>e=.panicked [pn 410]/\Below w.heap.size w w'
theorem T6 {ops:Array Oper} {rest:List Oper} {o:Oper} {a:Act} {w:World} {Q:Exit->Act->World->Prop} (hgd:o.guard=none) (b:Nat) (l:List (ByteArray×Value)) (hB:FX w b l) (m k:Operand) (ho:o.op=.lookup 86 m k true)
  (s:ByteArray) (hm:a.eval m=.map (some b)) (hk:a.eval k=.string s) (v:Value) (ok:Bool) (hv:DV s l=if ok then some v else none) (hz:ok=false->v=.nilFunc)
  (h:wpList Tryz.prog ops Q rest (a.put o.dst (.tuple #[v,.bool ok])) w):wpList Tryz.prog ops Q (o::rest) a w:=by
 have hrun:=dC (P:=Tryz.prog) 86 9 84 b l s w Tryz.underlying86 Tryz.underlying9 .nilFunc (by kernel_rfl) hB
 refine wpList_plain hgd fun _ hKK=>?_
 unfold Oper.wp execOp
 simp only [ho,hm,hk,Sem.run_bind,Sem.run_pure,Result.andThen_ok,hrun,hv]
 cases ok with
 | true=>exact hKK _ _ h
 | false=>rw [hz rfl] at h;exact hKK _ _ h
theorem dX (s:ByteArray) (hs:s.size<=10000) (w:World) (hL:Laid w):Calls Tryz.prog 32 #[.string s,.string ⟨#[32]⟩] w fun e w'=>
  e=.returned (.slice (some ⟨w.heap.size,0,none⟩) (DE s).length (DE s).length)/\w'=w.alloc (.cells (AC (DE s)).toArray 9):=by
 obtain ⟨m,hm⟩:=hL.mx
 rw [T3]
 exact Tryz.strings_Split s ⟨#[32]⟩ m w (by omega) hm (by decide)
theorem F9.exc {g g':Nat} {w w':World} {v:Value} {h:Head} {X:Array Value} {t:TypeId} (hf:F9 g w v h) (hx:Exc g' w w') (hg:w.heap[g']?=some (.cells X t (0,0))) (h1:t≠3) (h2:t≠79):F9 g w' v h:=by
 have hk:∀(q:Nat) (cs:Array Value) (u:TypeId),u=3∨u=79->w.heap[q]?=some (Obj.cells cs u (0,0))->w'.heap[q]?=some (Obj.cells cs u (0,0)):=fun q cs u hu hq=>by
  have hne:q≠g':=by
   rintro rfl
   rw [hg] at hq
   injection hq with hq
   injection hq with _ h3 _
   rcases hu with rfl|rfl
   ·exact h1 h3
   ·exact h2 h3
  rw [hx.other q (CM hq) hne]
  exact hq
 cases h with
 | fn n=>exact hf
 | one k=>
  obtain ⟨q,h3,h4⟩:=hf
  exact ⟨q,h3,hk _ _ _ (.inl rfl) h4⟩
 | span k=>
  obtain ⟨p,q,h3,h4,h5⟩:=hf
  exact ⟨p,q,h3,hk _ _ _ (.inr rfl) h4,hk _ _ _ (.inl rfl) h5⟩
theorem RV.new (w:World) (ss:List ByteArray) (hl:ss.length<=1000000):RV 9 (w.alloc (.cells (AC ss).toArray 9)) (some ⟨w.heap.size,0,none⟩) ss.length (AC ss) :=
 ⟨by rw [BG];exact Nat.le_refl _,by omega,fun h=>⟨_,0,_,rfl,na w _ 9,fun i hi=>by simp⟩⟩
theorem dY (p:Nat) (s:ByteArray) (hs:s.size<=10000) (w:World) (hL:Laid w) (hp:w.heap[p]?=some (.cells #[.string s] 9 (0,0))) :
  Calls Tryz.prog 29 #[.pointer (some ⟨p,0,none⟩)] w (RPl (AZ s) w):=by
 have c0:=cL s (by omega)
 have c1:=G1
 have c2:=G2
 have c3:=dX s hs
 have hsz:∀x ∈ DE s,x.size<=1000000:=fun x hx=>Nat.le_trans (dU s x hx) (by omega)
 have hln:(DE s).length<=1000000:=by
  rw [T3]
  have:=Lib.countB_le ⟨#[32]⟩ (by decide) s.size s (Nat.le_refl _)
  omega
 obtain ⟨R,hR⟩:∃R,R=AZ s:=⟨_,rfl⟩
 have HE:=AA hR
 rw [<-hR]
 unfold AZ at HE
 clear hR
 have y1:=fun Z=>(AB (kp (bA (b0 w) (.cells Z 48)) hp)).1
 generalize DE s=ws at *
 generalize CT s.data.toList=B at *
 go_enter Tryz.func29,Tryz.ntmps29
 go_wp2_with fail
 generalize hW:w.alloc (.cells _ 48)=w1
 have f1:∃Z:Array Value,Z.size=19/\w1.heap[w.heap.size]?=some (.cells Z 48 (0,0)):=⟨_,rfl,by rw [<-hW];exact na w _ 48⟩
 have HB1:Hid (Below w.heap.size w w1):=AA (by rw [<-hW];exact bA (b0 w) _)
 have y2:∀i,w1.cell? ⟨p,i,none⟩=(#[.string s]:Array Value)[i]?:=by rw [<-hW];exact y1 _
 have HL1:=AA (hL.below HB1.out)
 obtain ⟨Z0,hZ0,f1⟩:=f1
 clear hW y1
 refine (c0 _).mono ?_
 rintro e w2 ⟨rfl,rfl⟩
 cases B with
 | false=>
  have hE:=HE.out
  simp only [Bool.false_eq_true,if_false] at hE
  go_wp2_with fail
  refine (c2 _).mono ?_
  rintro e w2 ⟨rfl,rfl⟩
  go_wp2
  subst hE
  exact ⟨rfl,rfl,HB1.out⟩
 | true=>
  have hE:=HE.out
  simp only [if_true] at hE
  replace HE:=AA hE
  clear hE
  go_wp2_with fail
  refine (c1 _).mono ?_
  rintro e w2 ⟨rfl,rfl⟩
  go_wp2_with fail
  refine (c3 _ HL1.out).mono ?_
  rintro e w3 ⟨rfl,rfl⟩
  have hb3:=bA (b0 w2) (.cells (AC ws).toArray 9)
  have hRV:=RV.new w2 ws hln
  have f3:=kp hb3 f1
  have HB3:=AA (bB HB1.out hb3)
  have HL3:=AA (HL1.out.below hb3)
  have hA3:w2.heap.size<(w2.alloc (.cells (AC ws).toArray 9)).heap.size:=(AB (na w2 (AC ws).toArray 9)).2.2
  clear hb3 y2
  generalize w2.heap.size=A0 at *
  generalize w2.alloc (.cells (AC ws).toArray 9)=w3 at *
  have c4:=cM _ _ ws ⟨#[]⟩ w3 hRV hln
  have HRV:=AA hRV
  clear hRV f1 HB1 HL1 w2
  by_cases hc:0<=B8 ws ⟨#[]⟩ 0
  ·rw [decide_eq_true hc] at c4
   have hE:=HE.out
   rw [if_pos hc] at hE
   go_wp2_with fail
   refine c4.mono ?_
   rintro e w4 ⟨rfl,rfl⟩
   go_wp2_with fail
   refine (c2 _).mono ?_
   rintro e w5 ⟨rfl,rfl⟩
   go_wp2
   subst hE
   exact ⟨rfl,rfl,HB3.out⟩
  ·rw [decide_eq_false hc] at c4
   have hE:=HE.out
   rw [if_neg hc] at hE
   replace HE:=AA hE
   clear hE hc
   go_wp2_with fail
   refine c4.mono ?_
   rintro e w4 ⟨rfl,rfl⟩
   go_wp2_with fail
   refine (c1 _).mono ?_
   rintro e w5 ⟨rfl,rfl⟩
   go_wp2_with fail
   have hb5:=bA (b0 w4) (.cells #[.slice (some ⟨A0,0,none⟩) ws.length ws.length] 83)
   have hWd:Wd w4.heap.size ws (w4.alloc (.cells #[.slice (some ⟨A0,0,none⟩) ws.length ws.length] 83)):=⟨⟨_,_,na _ _ _,HRV.out.below hb5,fun a e=>by injection e with e;subst e;exact hA3⟩,HL3.out.below hb5,hsz,hln⟩
   have f5:=kp hb5 f3
   have HB5:=AA (bB HB3.out hb5)
   have hwg:w.heap.size<=w4.heap.size:=Nat.le_of_lt (CM f3)
   have hgr:w.heap.size≠w4.heap.size:=by have:=CM f3;omega
   refine (dT w4.heap.size _).mono ?_
   generalize w4.alloc (.cells #[.slice (some ⟨A0,0,none⟩) ws.length ws.length] 83)=w5 at *
   generalize w4.heap.size=g at *
   rintro e w6 ⟨b,l,rfl,hb6,hM6,hG1,hG2⟩
   have hWd6:=hWd.below hb6
   have f6:=kp hb6 f5
   have HB6:=AA (bB HB5.out hb6)
   have c5:=K3 g ws w6 hWd6
   have hbg:b≠g:=by
    obtain ⟨A,c,hg,-⟩:=hWd6.hg
    rintro rfl
    unfold FX at hM6
    rw [hg] at hM6
    cases hM6
   obtain ⟨A6,c6,hg6,-⟩:=hWd6.hg
   cases ws with
   | nil=>
    simp only [CS] at c5
    have hE:=HE.out
    simp only [FY] at hE
    go_wp2_with fail
    refine c5.mono ?_
    rintro e w7 ⟨rfl,hx7⟩
    go_wp2
    subst hE
    exact ⟨rfl,rfl,bG HB6.out hx7.low hwg⟩
   | cons x l0=>
    simp only [CS] at c5
    have hE:=HE.out
    simp only [FY] at hE
    replace HE:=AA hE
    clear hE
    go_wp2_with fail
    refine c5.mono ?_
    rintro e w7 ⟨rfl,hx7,hW7⟩
    have hM7:FX w7 b l:=(hx7.other b (CM hM6) hbg).trans hM6
    have HB7:=AA (bG HB6.out hx7.low hwg)
    have f7:=kx hx7 f6 hgr
    cases hh:B9 x with
    | none=>
     have hE:=HE.out
     simp only [hh] at hE
     have hv:DV x l=none:=by
      cases hv:DV x l with
      | none=>rfl
      | some v=>
       obtain ⟨h',h1,-⟩:=hG1 x v hv
       rw [hh] at h1
       cases h1
     go_wp2_with (refine T6 rfl b l hM7 _ _ rfl x rfl rfl .nilFunc false hv (fun _=>rfl) ?_)
     refine (c2 _).mono ?_
     rintro e w8 ⟨rfl,rfl⟩
     go_wp2
     subst hE
     exact ⟨rfl,rfl,HB7.out⟩
    | some hd=>
     have hE:=HE.out
     simp only [hh] at hE
     replace HE:=AA hE
     clear hE
     obtain ⟨v,hv⟩:=hG2 x hd hh
     obtain ⟨h',h1,hF⟩:=hG1 x v hv
     rw [hh] at h1
     injection h1 with h1
     subst h1
     have hF7:=hF.exc hx7 hg6 (by decide) (by decide)
     have HF:=AA hF7
     have HW7:=AA hW7
     clear hF hF7 hG1 hG2 hx7 hW7 hWd hWd6 hb6 hg6 hM6 hbg
     go_wp2_with (refine T6 rfl b l hM7 _ _ rfl x rfl rfl v true hv (fun e=>by cases e) ?_)
     refine (c1 _).mono ?_
     rintro e w8 ⟨rfl,rfl⟩
     cases hd with
     | fn n=>
      obtain rfl:v=_:=HF.out
      clear hv
      have c8:=dV hh g l0 w7 HW7.out
      have hcall:=dW hh
      clear hh HF
      go_wp2_with fail
      refine c8.mono ?_
      rintro e w8 hp8
      generalize Head.fn n=hd at *
      generalize DF hd l0=r8 at *
      cases r8 with
      | none=>
       obtain ⟨rfl,hx8⟩:=hp8
       have hE:=HE.out
       simp only at hE
       go_wp2
       subst hE
       exact ⟨rfl,rfl,bG HB7.out hx8.low hwg⟩
      | some cl=>
       obtain ⟨c,l'⟩:=cl
       obtain ⟨v8,rfl,hv8,hx8,hw8⟩:=hp8
       have HB8:=AA (bG HB7.out hx8.low hwg)
       have f8:=kx hx8 f7 hgr
       obtain ⟨A,ac,M,mc,rfl,-⟩:=id hv8
       have hs1:(c.cs A ac M mc).size=19:=JY _ _ _ _ _
       have h1:=JX c A ac M mc
       generalize c.cs A ac M mc=Y at *
       have HV8:=AA (hv8.mono HB7.out.size)
       have HW8:=AA hw8
       clear hx8 hv8 hw8
       cases l' with
       | nil=>
        have hE:=HE.out
        simp only [if_true] at hE
        go_wp2_with ((refine AG rfl _ _ _ rfl w8.heap.size 48 _ Y rfl rfl (na _ _ _) (by rw [AE,hs1]) (by rw [hs1];rfl) h1 ?_;simp only [Act.put]);generalize hT:setRow (w8.alloc (.cells _ 48)) w8.heap.size _=w9;obtain ⟨hx9,f9⟩:=AK (b0 _) (na w8 _ 48) hT;have hb9:=bX (bA (b0 w8) _) hx9 (Nat.le_refl _);have HW9:=AA (HW8.out.below hb9);obtain ⟨A9,c9,hg9,-⟩:=HW9.out.hg;obtain ⟨z1,z2,z3⟩:=AB hg9;have fr9:=kp hb9 f8;have HB9:=AA (bB HB8.out hb9);have HV9:=AA (HV8.out.below hb9);have l9:w8.heap.size<w9.heap.size:=CM f9;generalize w8.heap.size=q9 at*;clear hT hx9 hb9;simp only [List.length_nil] at z1 hg9)
        refine (c1 _).mono ?_
        rintro e w10 ⟨rfl,rfl⟩
        go_wp2_with (first
         | (refine DU rfl _ _ rfl q9 48 Y rfl f9 _ rfl Tryz.underlying48 (by rw [AE,hs1]) ?_;simp only [Act.put,lA1,lZ1,lS1])
         | (refine AG rfl _ _ _ rfl w.heap.size 48 _ Y rfl rfl fr9 (by rw [AE,hs1]) (by rw [hs1,hZ0]) h1 ?_;simp only [Act.put]))
        generalize hT:setRow w9 w.heap.size Y=w11
        obtain ⟨hx11,f11⟩:=AK (b0 _) fr9 hT
        subst hE
        refine bodyPost_ret (v:=.agg Y) ?_ rfl ⟨_,rfl,HV9.out.exc hx11 fr9 (by decide) (by decide),bX HB9.out hx11 (Nat.le_refl _)⟩
        exact G5 Tryz.results29 rfl (F8 f11 hs1)
       | cons x1 l1=>
        have hE:=HE.out
        simp only [reduceCtorEq,if_false] at hE
        go_wp2_with ((refine AG rfl _ _ _ rfl w8.heap.size 48 _ Y rfl rfl (na _ _ _) (by rw [AE,hs1]) (by rw [hs1];rfl) h1 ?_;simp only [Act.put]);generalize hT:setRow (w8.alloc (.cells _ 48)) w8.heap.size _=w9;obtain ⟨hx9,f9⟩:=AK (b0 _) (na w8 _ 48) hT;have hb9:=bX (bA (b0 w8) _) hx9 (Nat.le_refl _);have HW9:=AA (HW8.out.below hb9);obtain ⟨A9,c9,hg9,-⟩:=HW9.out.hg;obtain ⟨z1,z2,z3⟩:=AB hg9;have HB9:=AA (bB HB8.out hb9);generalize w8.heap.size=q9 at*;clear hT hx9 hb9;simp only [List.length_cons] at z1 hg9)
        refine (c2 _).mono ?_
        rintro e w10 ⟨rfl,rfl⟩
        go_wp2
        subst hE
        exact ⟨rfl,rfl,HB9.out⟩
     | one k=>
      obtain ⟨q,rfl,hq⟩:=HF.out
      clear hv
      have c8:Calls Tryz.prog 67 #[.pointer (some ⟨q,0,none⟩)] w7 (RPm g (DF (.one k) l0) w7):=cF g q k l0 w7 HW7.out hq
      clear hh HF hq
      go_wp2_with fail
      refine c8.mono ?_
      rintro e w8 hp8
      generalize Head.one k=hd at *
      generalize DF hd l0=r8 at *
      cases r8 with
      | none=>
       obtain ⟨rfl,hx8⟩:=hp8
       have hE:=HE.out
       simp only at hE
       go_wp2
       subst hE
       exact ⟨rfl,rfl,bG HB7.out hx8.low hwg⟩
      | some cl=>
       obtain ⟨c,l'⟩:=cl
       obtain ⟨v8,rfl,hv8,hx8,hw8⟩:=hp8
       have HB8:=AA (bG HB7.out hx8.low hwg)
       have f8:=kx hx8 f7 hgr
       obtain ⟨A,ac,M,mc,rfl,-⟩:=id hv8
       have hs1:(c.cs A ac M mc).size=19:=JY _ _ _ _ _
       have h1:=JX c A ac M mc
       generalize c.cs A ac M mc=Y at *
       have HV8:=AA (hv8.mono HB7.out.size)
       have HW8:=AA hw8
       clear hx8 hv8 hw8
       cases l' with
       | nil=>
        have hE:=HE.out
        simp only [if_true] at hE
        go_wp2_with ((refine AG rfl _ _ _ rfl w8.heap.size 48 _ Y rfl rfl (na _ _ _) (by rw [AE,hs1]) (by rw [hs1];rfl) h1 ?_;simp only [Act.put]);generalize hT:setRow (w8.alloc (.cells _ 48)) w8.heap.size _=w9;obtain ⟨hx9,f9⟩:=AK (b0 _) (na w8 _ 48) hT;have hb9:=bX (bA (b0 w8) _) hx9 (Nat.le_refl _);have HW9:=AA (HW8.out.below hb9);obtain ⟨A9,c9,hg9,-⟩:=HW9.out.hg;obtain ⟨z1,z2,z3⟩:=AB hg9;have fr9:=kp hb9 f8;have HB9:=AA (bB HB8.out hb9);have HV9:=AA (HV8.out.below hb9);have l9:w8.heap.size<w9.heap.size:=CM f9;generalize w8.heap.size=q9 at*;clear hT hx9 hb9;simp only [List.length_nil] at z1 hg9)
        refine (c1 _).mono ?_
        rintro e w10 ⟨rfl,rfl⟩
        go_wp2_with (first
         | (refine DU rfl _ _ rfl q9 48 Y rfl f9 _ rfl Tryz.underlying48 (by rw [AE,hs1]) ?_;simp only [Act.put,lA1,lZ1,lS1])
         | (refine AG rfl _ _ _ rfl w.heap.size 48 _ Y rfl rfl fr9 (by rw [AE,hs1]) (by rw [hs1,hZ0]) h1 ?_;simp only [Act.put]))
        generalize hT:setRow w9 w.heap.size Y=w11
        obtain ⟨hx11,f11⟩:=AK (b0 _) fr9 hT
        subst hE
        refine bodyPost_ret (v:=.agg Y) ?_ rfl ⟨_,rfl,HV9.out.exc hx11 fr9 (by decide) (by decide),bX HB9.out hx11 (Nat.le_refl _)⟩
        exact G5 Tryz.results29 rfl (F8 f11 hs1)
       | cons x1 l1=>
        have hE:=HE.out
        simp only [reduceCtorEq,if_false] at hE
        go_wp2_with ((refine AG rfl _ _ _ rfl w8.heap.size 48 _ Y rfl rfl (na _ _ _) (by rw [AE,hs1]) (by rw [hs1];rfl) h1 ?_;simp only [Act.put]);generalize hT:setRow (w8.alloc (.cells _ 48)) w8.heap.size _=w9;obtain ⟨hx9,f9⟩:=AK (b0 _) (na w8 _ 48) hT;have hb9:=bX (bA (b0 w8) _) hx9 (Nat.le_refl _);have HW9:=AA (HW8.out.below hb9);obtain ⟨A9,c9,hg9,-⟩:=HW9.out.hg;obtain ⟨z1,z2,z3⟩:=AB hg9;have HB9:=AA (bB HB8.out hb9);generalize w8.heap.size=q9 at*;clear hT hx9 hb9;simp only [List.length_cons] at z1 hg9)
        refine (c2 _).mono ?_
        rintro e w10 ⟨rfl,rfl⟩
        go_wp2
        subst hE
        exact ⟨rfl,rfl,HB9.out⟩
     | span k=>
      obtain ⟨p,q,rfl,hp1,hq⟩:=HF.out
      clear hv
      have c8:Calls Tryz.prog 70 #[.pointer (some ⟨p,0,none⟩),.pointer (some ⟨q,0,none⟩)] w7 (RPm g (DF (.span k) l0) w7):=cE g p q k l0 w7 HW7.out hp1 hq
      clear hh HF hq hp1
      go_wp2_with fail
      refine c8.mono ?_
      rintro e w8 hp8
      generalize Head.span k=hd at *
      generalize DF hd l0=r8 at *
      cases r8 with
      | none=>
       obtain ⟨rfl,hx8⟩:=hp8
       have hE:=HE.out
       simp only at hE
       go_wp2
       subst hE
       exact ⟨rfl,rfl,bG HB7.out hx8.low hwg⟩
      | some cl=>
       obtain ⟨c,l'⟩:=cl
       obtain ⟨v8,rfl,hv8,hx8,hw8⟩:=hp8
       have HB8:=AA (bG HB7.out hx8.low hwg)
       have f8:=kx hx8 f7 hgr
       obtain ⟨A,ac,M,mc,rfl,-⟩:=id hv8
       have hs1:(c.cs A ac M mc).size=19:=JY _ _ _ _ _
       have h1:=JX c A ac M mc
       generalize c.cs A ac M mc=Y at *
       have HV8:=AA (hv8.mono HB7.out.size)
       have HW8:=AA hw8
       clear hx8 hv8 hw8
       cases l' with
       | nil=>
        have hE:=HE.out
        simp only [if_true] at hE
        go_wp2_with ((refine AG rfl _ _ _ rfl w8.heap.size 48 _ Y rfl rfl (na _ _ _) (by rw [AE,hs1]) (by rw [hs1];rfl) h1 ?_;simp only [Act.put]);generalize hT:setRow (w8.alloc (.cells _ 48)) w8.heap.size _=w9;obtain ⟨hx9,f9⟩:=AK (b0 _) (na w8 _ 48) hT;have hb9:=bX (bA (b0 w8) _) hx9 (Nat.le_refl _);have HW9:=AA (HW8.out.below hb9);obtain ⟨A9,c9,hg9,-⟩:=HW9.out.hg;obtain ⟨z1,z2,z3⟩:=AB hg9;have fr9:=kp hb9 f8;have HB9:=AA (bB HB8.out hb9);have HV9:=AA (HV8.out.below hb9);have l9:w8.heap.size<w9.heap.size:=CM f9;generalize w8.heap.size=q9 at*;clear hT hx9 hb9;simp only [List.length_nil] at z1 hg9)
        refine (c1 _).mono ?_
        rintro e w10 ⟨rfl,rfl⟩
        go_wp2_with (first
         | (refine DU rfl _ _ rfl q9 48 Y rfl f9 _ rfl Tryz.underlying48 (by rw [AE,hs1]) ?_;simp only [Act.put,lA1,lZ1,lS1])
         | (refine AG rfl _ _ _ rfl w.heap.size 48 _ Y rfl rfl fr9 (by rw [AE,hs1]) (by rw [hs1,hZ0]) h1 ?_;simp only [Act.put]))
        generalize hT:setRow w9 w.heap.size Y=w11
        obtain ⟨hx11,f11⟩:=AK (b0 _) fr9 hT
        subst hE
        refine bodyPost_ret (v:=.agg Y) ?_ rfl ⟨_,rfl,HV9.out.exc hx11 fr9 (by decide) (by decide),bX HB9.out hx11 (Nat.le_refl _)⟩
        exact G5 Tryz.results29 rfl (F8 f11 hs1)
       | cons x1 l1=>
        have hE:=HE.out
        simp only [reduceCtorEq,if_false] at hE
        go_wp2_with ((refine AG rfl _ _ _ rfl w8.heap.size 48 _ Y rfl rfl (na _ _ _) (by rw [AE,hs1]) (by rw [hs1];rfl) h1 ?_;simp only [Act.put]);generalize hT:setRow (w8.alloc (.cells _ 48)) w8.heap.size _=w9;obtain ⟨hx9,f9⟩:=AK (b0 _) (na w8 _ 48) hT;have hb9:=bX (bA (b0 w8) _) hx9 (Nat.le_refl _);have HW9:=AA (HW8.out.below hb9);obtain ⟨A9,c9,hg9,-⟩:=HW9.out.hg;obtain ⟨z1,z2,z3⟩:=AB hg9;have HB9:=AA (bB HB8.out hb9);generalize w8.heap.size=q9 at*;clear hT hx9 hb9;simp only [List.length_cons] at z1 hg9)
        refine (c2 _).mono ?_
        rintro e w10 ⟨rfl,rfl⟩
        go_wp2
        subst hE
        exact ⟨rfl,rfl,HB9.out⟩
def AD:Array Value:=AI 0 ⟨0,0,⟨#[]⟩,0,0,0,none,0,0,0,⟨#[]⟩,0,0,0,0,⟨#[]⟩,0,0⟩ 0 none 0 0
theorem BF:AD.size=19:=rfl
theorem C2:AD.all (·.oneCell')=true:=BB _ _ _ _ _ _
theorem dZ (x:Int) (w:World):(Instr.typeAssert (.iface 30 (.int .i64 x)) 20 30 true).run Tryz.prog w=.ok (.tuple #[.int .i64 x,.bool true]) w:=by kernel_rfl
theorem eA (o p:Nat) (x:Int) (Zo:Array Value) (hZo:Zo.size=19) (w:World) (ho:w.heap[o]?=some (.cells Zo 48 (0,0))) (hp:w.heap[p]?=some (.cells #[.int .i64 0] 30 (0,0))) (hne:p≠o) :
  CallsD Tryz.prog 55 #[.pointer (some ⟨o,0,none⟩),.pointer (some ⟨p,0,none⟩)] (.panicking [pn x]) w fun e u' w'=>
   e=.returned (.tuple #[])/\u'=.panicking [{ v:=.iface 30 (.int .i64 x),recovered:=true }]/\w'.heap[o]?=some (.cells AD 48 (0,0))/\w'.heap[p]?=some (.cells #[.int .i64 x] 30 (0,0))/\∀n,n<=o->n<=p->Below n w w':=by
 unfold pn
 refine callsD_of_wpS Tryz.func55 rfl fun c₀ cs hu=>?_
 apply wpS_seq
 apply wpS_region
 simp [wpOpsS,go_sem,recoverD,hu,Tryz.ntmps55,Exit.thenS]
 have fo:=kp (bA (b0 w) (.cells AD 48)) ho
 have fp:=kp (bA (b0 w) (.cells AD 48)) hp
 have f5:=na w AD 48
 refine wpS_of_wp ?_
 simp only [Array.replicate_succ,Array.replicate_zero,List.push_toArray,List.append_toArray,List.nil_append,List.cons_append,lA1,lZ1,lS1]
 generalize hQ:(fun e a' w'=>bodyPostS _ _ _ _ _ e a' _ w')=Q
 have hta:=dZ x
 have h1:=C2
 have hs:=BF
 go_wp2_with (first
  | (refine DU rfl _ _ rfl w.heap.size 48 AD rfl f5 _ rfl Tryz.underlying48 (by rw [AE,hs]) ?_;simp only [Act.put,lA1,lZ1,lS1])
  | ((refine AG rfl _ _ _ rfl o 48 _ AD rfl rfl fo (by rw [AE,hs]) (by rw [hs,hZo]) h1 ?_;simp only [Act.put]);generalize hT1:setRow (w.alloc _) o _=w1;obtain ⟨hx1,f1⟩:=AK (b0 _) fo hT1;have p1:=kx hx1 fp hne;obtain ⟨y1,y2,y3⟩:=AB p1))
 rw [O0 p1]
 generalize hT2:setRow w1 p _=w2
 obtain ⟨hx2,f2⟩:=AK (b0 _) p1 hT2
 have o2:=kx hx2 f1 hne.symm
 subst hQ
 refine ⟨rfl,_,rfl,.tuple #[],by simp [results,Tryz.results55,go_sem],rfl,rfl,o2,f2,fun n h1 h2=>?_⟩
 have l0:=CM ho
 exact ((bA (b0 w) (.cells AD 48)).mono (by omega)).trans ((hx1.low.mono h1).trans (hx2.low.mono h2))
theorem eB (o p:Addr) (w:World) :
  CallsD Tryz.prog 55 #[.pointer (some o),.pointer (some p)] .returning w fun e u' w'=>e=.returned (.tuple #[])/\u'=.returning/\w'=w:=by
 refine callsD_of_wpS Tryz.func55 rfl fun c₀ cs hu=>?_
 apply wpS_seq
 apply wpS_region
 simp [wpOpsS,go_sem,recoverD,hu,Tryz.ntmps55,Exit.thenS]
 refine wpS_of_wp ?_
 simp only [Array.replicate_succ,Array.replicate_zero,List.push_toArray,List.append_toArray,List.nil_append,List.cons_append,lA1,lZ1,lS1]
 generalize hQ:(fun e a' w'=>bodyPostS _ _ _ _ _ e a' _ w')=Q
 go_wp2_with fail
 subst hQ
 exact ⟨rfl,_,rfl,.tuple #[],by simp [results,Tryz.results55,go_sem],rfl,by first|exact hu|rfl,rfl⟩
theorem T7 {o p:Nat} {x:Int} {Z:Array Value} {tmps:Array Value} {w:World} (hZ:Z.size=19) (h1:w.heap[o]?=some (.cells Z 48 (0,0))) (h2:w.heap[p]?=some (.cells #[.int .i64 x] 30 (0,0)))
  (t2:tmps[2]?=some (.pointer (some ⟨o,0,none⟩))) (t3:tmps[3]?=some (.pointer (some ⟨p,0,none⟩))):(results Tryz.f28 tmps).run Tryz.prog w=.ok (.tuple #[.agg Z,.int .i64 x]) w:=by
 have e1:=F8 h1 hZ
 have y2:=(AB h2).1
 have e2:(loadVar 30 ⟨p,0,none⟩).run Tryz.prog w=.ok (.int .i64 x) w:=by simp [go_sem,y2]
 simp [results,Tryz.results28,t2,t3,asAddr,e1,e2]
theorem eC {o p:Nat} {x:Int} {Z:Array Value} {tmps:Array Value} {w:World} {R:Ending->World->Prop} (hZ:Z.size=19) (ho:w.heap[o]?=some (.cells Z 48 (0,0))) (hp:w.heap[p]?=some (.cells #[.int .i64 0] 30 (0,0))) (hne:p≠o)
  (t2:tmps[2]?=some (.pointer (some ⟨o,0,none⟩))) (t3:tmps[3]?=some (.pointer (some ⟨p,0,none⟩))) (hR:∀w',(∀n,n<=o->n<=p->Below n w w')->R (.returned (.tuple #[.agg AD,.int .i64 x])) w') :
  Leaves Tryz.prog Tryz.f28 tmps R [{ target:=.fn (.func 55) #[.pointer (some ⟨o,0,none⟩),.pointer (some ⟨p,0,none⟩)],args:=#[] }] (.panicking [pn x]) w:=by
 refine leaves_cons (f:=55) (args:=#[.pointer (some ⟨o,0,none⟩),.pointer (some ⟨p,0,none⟩)]) (by simp) (by simp [go_sem]) ?_
 refine (eA o p x Z hZ w ho hp hne).mono ?_
 rintro e u' w'' ⟨rfl,rfl,h1,h2,h3⟩
 have e0:=T7 BF h1 h2 t2 t3
 simp [Leaves,settle]
 exact ⟨_,e0,hR _ h3⟩
theorem eD {o p:Nat} {v:Value} {tmps:Array Value} {w:World} {R:Ending->World->Prop}
  (hres:(results Tryz.f28 tmps).run Tryz.prog w=.ok v w) (hR:R (.returned v) w) :
  Leaves Tryz.prog Tryz.f28 tmps R [{ target:=.fn (.func 55) #[.pointer (some ⟨o,0,none⟩),.pointer (some ⟨p,0,none⟩)],args:=#[] }] .returning w:=by
 refine leaves_cons (f:=55) (args:=#[.pointer (some ⟨o,0,none⟩),.pointer (some ⟨p,0,none⟩)]) (by simp) (by simp [go_sem]) ?_
 refine (eB ⟨o,0,none⟩ ⟨p,0,none⟩ w).mono ?_
 rintro e u' w'' ⟨rfl,rfl,rfl⟩
 simp [Leaves,settle]
 exact ⟨_,hres,hR⟩
def RPp (r:Option Cm) (w:World) (e:Ending) (w':World):Prop :=
 match r with
 | some c=>∃v,e=.returned (.tuple #[v,.int .i64 0])/\BI w.heap.size w' v c/\Below w.heap.size w w'
 | none=>e=.returned (.tuple #[.agg AD,.int .i64 410])/\Below w.heap.size w w'
theorem eE (p:Nat) (s:ByteArray) (hs:s.size<=10000) (w:World) (hL:Laid w) (hp:w.heap[p]?=some (.cells #[.string s] 9 (0,0))) :
  Calls Tryz.prog 28 #[.func (.func 29) #[] #[.pointer (some ⟨p,0,none⟩)]] w (RPp (AZ s) w):=by
 have hmf:∀(fn:Fn) (first cap:Array Value) (w:World),(Instr.makeFunc fn first cap).run Tryz.prog w=.ok (.func fn first cap) w:=fun _ _ _ _=>rfl
 have hb1:=bA (b0 w) (.cells AD 48)
 have hb2:=bA (b0 (w.alloc (.cells AD 48))) (.cells #[.int .i64 0] 30)
 have hB:=bB hb1 hb2
 have f1:=kp hb2 (na w AD 48)
 have f2:=na (w.alloc (.cells AD 48)) #[.int .i64 0] 30
 have hne:(w.alloc (.cells AD 48)).heap.size=w.heap.size+1:=by simp
 have c0:=dY p s hs _ (hL.below hB) (kp hB hp)
 generalize AZ s=R at *
 go_enter_defers Tryz.func28,Tryz.ntmps28
 go_wp2_with fail
 refine c0.mono ?_
 rintro e w3 hp3
 have hw2:(w.alloc (.cells AD 48)).heap.size=w.heap.size+1:=hne
 cases R with
 | none=>
  obtain ⟨rfl,hb3⟩:=hp3
  have fo:=kp hb3 f1
  have fp:=kp hb3 f2
  have HB3:=AA (bB hB hb3)
  rw [hw2] at fp
  clear c0 hb1 hb2 hB f1 f2 hb3
  go_wp2_with fail
  refine eC BF fo fp (by omega) rfl rfl fun w' hb'=>?_
  have hbb:=hb' w.heap.size (by omega) (by omega)
  exact ⟨rfl,bG HB3.out hbb (Nat.le_refl _)⟩
 | some c=>
  obtain ⟨v,rfl,hv,hb3⟩:=hp3
  obtain ⟨A,ac,M,mc,rfl,-⟩:=id hv
  have hs1:(c.cs A ac M mc).size=19:=JY _ _ _ _ _
  have h1:=JX c A ac M mc
  generalize c.cs A ac M mc=Y at *
  have fo:=kp hb3 f1
  have fp:=kp hb3 f2
  have HB3:=AA (bB hB hb3)
  rw [hw2] at fp
  have hz:=BF
  have HV:=AA (hv.mono hB.size)
  clear c0 hb1 hb2 hB f1 f2 hb3 hv
  go_wp2_with ((refine AG rfl _ _ _ rfl w.heap.size 48 _ Y rfl rfl fo (by rw [AE,hs1]) (by rw [hs1,hz]) h1 ?_;simp only [Act.put]);generalize hT1:setRow w3 w.heap.size _=w4;obtain ⟨hx4,f4⟩:=AK (b0 _) fo hT1;have p4:=kx hx4 fp (by omega);obtain ⟨y1,y2,y3⟩:=AB p4;have HV4:=AA (HV.out.exc hx4 fo (by decide) (by decide));have HB4:=AA (bX HB3.out hx4 (Nat.le_refl _));clear hT1 HV HB3 hx4)
  rw [O0 p4]
  generalize hT2:setRow w4 _ _=w5
  obtain ⟨hx5,p5⟩:=AK (b0 _) p4 hT2
  have f5:=kx hx5 f4 (by omega)
  refine eD (v:=.tuple #[.agg Y,.int .i64 0]) (T7 hs1 f5 p5 rfl rfl) ?_
  exact ⟨_,rfl,(HV4.out.exc hx5 p4 (by decide) (by decide)),bX HB4.out hx5 (by omega)⟩
theorem T8 {o:Nat} {v:Value} {Z:Array Value} {tmps:Array Value} {w:World} (hZ:Z.size=19) (h1:w.heap[o]?=some (.cells Z 48 (0,0)))
  (t2:tmps[2]?=some (.pointer (some ⟨o,0,none⟩))) (t3:tmps[3]?=some v):(results Tryz.f10 tmps).run Tryz.prog w=.ok (.tuple #[.agg Z,v]) w:=by
 have e1:=F8 h1 hZ
 simp [results,Tryz.results10,t2,t3,asAddr,e1]
theorem NH (s:ByteArray) (hs:s.size<=10000) (w:World) (hL:Laid w):Calls Tryz.prog 10 #[.string s] w (RPp (AZ s) w):=by
 have hmf:∀(fn:Fn) (first cap:Array Value) (w:World),(Instr.makeFunc fn first cap).run Tryz.prog w=.ok (.func fn first cap) w:=fun _ _ _ _=>rfl
 have hb1:=bA (b0 w) (.cells #[.string s] 9)
 have hb2:=bA (b0 (w.alloc (.cells #[.string s] 9))) (.cells AD 48)
 have hB:=bB hb1 hb2
 have f1:=kp hb2 (na w #[.string s] 9)
 have f2:=na (w.alloc (.cells #[.string s] 9)) AD 48
 have hne:(w.alloc (.cells #[.string s] 9)).heap.size=w.heap.size+1:=by simp
 have c0:=eE w.heap.size s hs _ (hL.below hB) f1
 generalize AZ s=R at *
 go_enter Tryz.func10,Tryz.ntmps10
 go_wp2_with fail
 refine c0.mono ?_
 rintro e w3 hp3
 rw [hne] at f2
 cases R with
 | none=>
  obtain ⟨rfl,hb3⟩:=hp3
  have fo:=kp hb3 f2
  have HB3:=AA (bB hB hb3)
  have hz:=BF
  have h1:=C2
  clear c0 hb1 hb2 hB f1 f2 hb3
  go_wp2_with ((refine AG rfl _ _ _ rfl (w.heap.size+1) 48 _ AD rfl rfl fo (by rw [AE,hz]) rfl h1 ?_;simp only [Act.put]))
  generalize hT1:setRow w3 _ _=w4
  obtain ⟨hx4,f4⟩:=AK (b0 _) fo hT1
  refine bodyPost_ret (v:=.tuple #[.agg AD,.int .i64 410]) ?_ rfl ⟨rfl,bX HB3.out hx4 (by omega)⟩
  exact T8 BF f4 rfl rfl
 | some c=>
  obtain ⟨v,rfl,hv,hb3⟩:=hp3
  obtain ⟨A,ac,M,mc,rfl,-⟩:=id hv
  have hs1:(c.cs A ac M mc).size=19:=JY _ _ _ _ _
  have h1:=JX c A ac M mc
  generalize c.cs A ac M mc=Y at *
  have fo:=kp hb3 f2
  have HB3:=AA (bB hB hb3)
  have hz:=BF
  have HV:=AA (hv.mono hB.size)
  clear c0 hb1 hb2 hB f1 f2 hb3 hv
  go_wp2_with ((refine AG rfl _ _ _ rfl (w.heap.size+1) 48 _ Y rfl rfl fo (by rw [AE,hs1]) (by rw [hs1,hz]) h1 ?_;simp only [Act.put]))
  generalize hT1:setRow w3 _ _=w4
  obtain ⟨hx4,f4⟩:=AK (b0 _) fo hT1
  refine bodyPost_ret (v:=.tuple #[.agg Y,.int .i64 0]) ?_ rfl ⟨_,rfl,HV.out.exc hx4 fo (by decide) (by decide),bX HB3.out hx4 (by omega)⟩
  exact T8 hs1 f4 rfl rfl
end Go.Proofs.YtlnonecibpjcoaaGreatDoor
