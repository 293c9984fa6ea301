/- The console at t. -/
import Derived.Test.YtlnonecibpjcoaaGreatDoorRb
set_option linter.all false
set_option maxRecDepth 100000
set_option maxHeartbeats 8000000
namespace Go.Proofs.YtlnonecibpjcoaaGreatDoor
open Go.RowKit
attribute [local go_sem] Oper.semAt_some
def FW (ws:List ByteArray):Option (Cm×List ByteArray) :=
 match BK ws with|none=>none|some (s,l1)=>match AM l1 with|none=>none|some (x,l2)=>match AM l2 with|none=>none|some (y,l3)=>some ({ ok:=1,mkd:=1,mn:=s,me:=x,ms:=y },l3)
theorem bR (g:Nat) (ws:List ByteArray) (w:World) (h:Wd g ws w):Calls Tryz.prog 58 #[.pointer (some ⟨g,0,none⟩)] w (RPm g (FW ws) w):=by
 have lg:=h.lt
 have HW:=AA h
 have hW1:=fun Z=>AA (h.below (bA (b0 w) (.cells Z 48)))
 have f1:=fun Z=>na w Z 48
 have HX1:=fun Z=>AA (xA (x0 g w (Nat.le_of_lt lg)) (.cells Z 48))
 have HE:=AA (show FW ws=(match BK ws with|none=>none|some (s,l1)=>match AM l1 with|none=>none|some (x,l2)=>match AM l2 with|none=>none|some (y,l3)=>some ({ ok:=1,mkd:=1,mn:=s,me:=x,ms:=y },l3)) from rfl)
 obtain ⟨R,hR⟩:∃R,R=FW ws:=⟨_,rfl⟩
 rw [<-hR] at HE ⊢
 clear hR h
 go_enter Tryz.func58,Tryz.ntmps58
 have c0:=G3 g ws
 go_wp2_with fail
 refine (c0 _ (hW1 _).out).mono ?_
 rintro e w2 hp
 cases e0:BK ws with
 | none=>
  rw [e0] at hp
  have hE:=HE.out
  simp only [e0] at hE
  obtain ⟨rfl,hx⟩:=hp
  go_wp2
  subst hE
  exact ⟨rfl,rfl,xX (HX1 _).out hx (.inl rfl)⟩
 | some xl=>
  obtain ⟨s,l1⟩:=xl
  rw [e0] at hp
  have hE:=HE.out
  simp only [e0] at hE
  replace HE:=AA hE
  clear hE e0
  obtain ⟨rfl,hx,hw⟩:=hp
  have HX2:=AA (xX (HX1 _).out hx (.inl rfl))
  have f2:=kx hx (f1 _) (by omega)
  have hW2:=AA hw
  clear hw hx
  have c1:=D3 g l1
  go_wp2_with fail
  refine (c1 _ hW2.out).mono ?_
  rintro e w3 hp
  cases e1:AM l1 with
  | none=>
   rw [e1] at hp
   have hE:=HE.out
   simp only [e1] at hE
   obtain ⟨rfl,hx⟩:=hp
   go_wp2
   subst hE
   exact ⟨rfl,rfl,xX HX2.out hx (.inl rfl)⟩
  | some xl=>
   obtain ⟨x,l2⟩:=xl
   rw [e1] at hp
   have hE:=HE.out
   simp only [e1] at hE
   replace HE:=AA hE
   clear hE e1
   obtain ⟨rfl,hx,hw⟩:=hp
   have HX3:=AA (xX HX2.out hx (.inl rfl))
   have f3:=kx hx f2 (by omega)
   have hW3:=AA hw
   clear hw hx
   have c2:=D3 g l2
   go_wp2_with fail
   refine (c2 _ hW3.out).mono ?_
   rintro e w4 hp
   cases e2:AM l2 with
   | none=>
    rw [e2] at hp
    have hE:=HE.out
    simp only [e2] at hE
    obtain ⟨rfl,hx⟩:=hp
    go_wp2
    subst hE
    exact ⟨rfl,rfl,xX HX3.out hx (.inl rfl)⟩
   | some xl=>
    obtain ⟨y,l3⟩:=xl
    rw [e2] at hp
    have hE:=HE.out
    simp only [e2] at hE
    replace HE:=AA hE
    clear hE e2
    obtain ⟨rfl,hx,hw⟩:=hp
    have HX4:=AA (xX HX3.out hx (.inl rfl))
    have f4:=kx hx f3 (by omega)
    have hW4:=AA hw
    clear hw hx
    have hcs:∀w',BI w.heap.size w' (.agg (AI 1 ⟨1,1,s,x,0,y,none,0,0,0,⟨#[]⟩,0,0,0,0,⟨#[]⟩,0,0⟩ 0 none 0 0)) { ok:=1,mkd:=1,mn:=s,me:=x,ms:=y }:=fun w'=>⟨none,0,none,0,rfl,RS.nil _,RS.nil _⟩
    have hs1:(AI 1 ⟨1,1,s,x,0,y,none,0,0,0,⟨#[]⟩,0,0,0,0,⟨#[]⟩,0,0⟩ 0 none 0 0).size=19:=rfl
    have h1:(AI 1 ⟨1,1,s,x,0,y,none,0,0,0,⟨#[]⟩,0,0,0,0,⟨#[]⟩,0,0⟩ 0 none 0 0).all (·.oneCell')=true:=BB _ _ _ _ _ _
    have c9:=NF 1 x 0 y s none 0 0
    generalize AI 1 ⟨1,1,s,x,0,y,none,0,0,0,⟨#[]⟩,0,0,0,0,⟨#[]⟩,0,0⟩ 0 none 0 0=Y at *
    go_wp2_with fail
    refine (c9 _).mono ?_
    rintro e w9 ⟨rfl,hb9⟩
    have f9:=kp hb9 f4
    go_wp2_with (refine AG rfl _ _ _ rfl w.heap.size 48 _ Y rfl rfl f9 (by rw [AE,hs1]) (by rw [hs1];rfl) h1 ?_;simp only [Act.put])
    exact EZ Tryz.results58 rfl f9 hs1 (xB HX4.out hb9) (hW4.out.below hb9) HW.out (Nat.le_refl _) (hcs _) HE.out
def K8 (ws:List ByteArray):Option (Cm×List ByteArray) :=
 match BK ws with|none=>none|some (s,l1)=>match AM l1 with|none=>none|some (x,l2)=>some ({ ok:=1,mkd:=4,mn:=s,mf:=x },l2)
theorem bT (g:Nat) (ws:List ByteArray) (w:World) (h:Wd g ws w):Calls Tryz.prog 61 #[.pointer (some ⟨g,0,none⟩)] w (RPm g (K8 ws) w):=by
 have lg:=h.lt
 have HW:=AA h
 have hW1:=fun Z=>AA (h.below (bA (b0 w) (.cells Z 48)))
 have f1:=fun Z=>na w Z 48
 have HX1:=fun Z=>AA (xA (x0 g w (Nat.le_of_lt lg)) (.cells Z 48))
 have HE:=AA (show K8 ws=(match BK ws with|none=>none|some (s,l1)=>match AM l1 with|none=>none|some (x,l2)=>some ({ ok:=1,mkd:=4,mn:=s,mf:=x },l2)) from rfl)
 obtain ⟨R,hR⟩:∃R,R=K8 ws:=⟨_,rfl⟩
 rw [<-hR] at HE ⊢
 clear hR h
 go_enter Tryz.func61,Tryz.ntmps61
 have c0:=G3 g ws
 go_wp2_with fail
 refine (c0 _ (hW1 _).out).mono ?_
 rintro e w2 hp
 cases e0:BK ws with
 | none=>
  rw [e0] at hp
  have hE:=HE.out
  simp only [e0] at hE
  obtain ⟨rfl,hx⟩:=hp
  go_wp2
  subst hE
  exact ⟨rfl,rfl,xX (HX1 _).out hx (.inl rfl)⟩
 | some xl=>
  obtain ⟨s,l1⟩:=xl
  rw [e0] at hp
  have hE:=HE.out
  simp only [e0] at hE
  replace HE:=AA hE
  clear hE e0
  obtain ⟨rfl,hx,hw⟩:=hp
  have HX2:=AA (xX (HX1 _).out hx (.inl rfl))
  have f2:=kx hx (f1 _) (by omega)
  have hW2:=AA hw
  clear hw hx
  have c1:=D3 g l1
  go_wp2_with fail
  refine (c1 _ hW2.out).mono ?_
  rintro e w3 hp
  cases e1:AM l1 with
  | none=>
   rw [e1] at hp
   have hE:=HE.out
   simp only [e1] at hE
   obtain ⟨rfl,hx⟩:=hp
   go_wp2
   subst hE
   exact ⟨rfl,rfl,xX HX2.out hx (.inl rfl)⟩
  | some xl=>
   obtain ⟨x,l2⟩:=xl
   rw [e1] at hp
   have hE:=HE.out
   simp only [e1] at hE
   replace HE:=AA hE
   clear hE e1
   obtain ⟨rfl,hx,hw⟩:=hp
   have HX3:=AA (xX HX2.out hx (.inl rfl))
   have f3:=kx hx f2 (by omega)
   have hW3:=AA hw
   clear hw hx
   have hcs:∀w',BI w.heap.size w' (.agg (AI 1 ⟨1,4,s,0,x,0,none,0,0,0,⟨#[]⟩,0,0,0,0,⟨#[]⟩,0,0⟩ 0 none 0 0)) { ok:=1,mkd:=4,mn:=s,mf:=x }:=fun w'=>⟨none,0,none,0,rfl,RS.nil _,RS.nil _⟩
   have hs1:(AI 1 ⟨1,4,s,0,x,0,none,0,0,0,⟨#[]⟩,0,0,0,0,⟨#[]⟩,0,0⟩ 0 none 0 0).size=19:=rfl
   have h1:(AI 1 ⟨1,4,s,0,x,0,none,0,0,0,⟨#[]⟩,0,0,0,0,⟨#[]⟩,0,0⟩ 0 none 0 0).all (·.oneCell')=true:=BB _ _ _ _ _ _
   have c9:=NF 4 0 x 0 s none 0 0
   generalize AI 1 ⟨1,4,s,0,x,0,none,0,0,0,⟨#[]⟩,0,0,0,0,⟨#[]⟩,0,0⟩ 0 none 0 0=Y at *
   go_wp2_with fail
   refine (c9 _).mono ?_
   rintro e w9 ⟨rfl,hb9⟩
   have f9:=kp hb9 f3
   go_wp2_with (refine AG rfl _ _ _ rfl w.heap.size 48 _ Y rfl rfl f9 (by rw [AE,hs1]) (by rw [hs1];rfl) h1 ?_;simp only [Act.put])
   exact EZ Tryz.results61 rfl f9 hs1 (xB HX3.out hb9) (hW3.out.below hb9) HW.out (Nat.le_refl _) (hcs _) HE.out
def pAt (ws:List ByteArray):Option (Cm×List ByteArray) :=
 match BK ws with|none=>none|some (s,l1)=>match AM l1 with|none=>none|some (x,l2)=>some ({ ok:=5,qk:=6,qn:=s,qa:=x },l2)
theorem bU (g:Nat) (ws:List ByteArray) (w:World) (h:Wd g ws w):Calls Tryz.prog 63 #[.pointer (some ⟨g,0,none⟩)] w (RPm g (pAt ws) w):=by
 have lg:=h.lt
 have HW:=AA h
 have hW1:=fun Z=>AA (h.below (bA (b0 w) (.cells Z 48)))
 have f1:=fun Z=>na w Z 48
 have HX1:=fun Z=>AA (xA (x0 g w (Nat.le_of_lt lg)) (.cells Z 48))
 have HE:=AA (show pAt ws=(match BK ws with|none=>none|some (s,l1)=>match AM l1 with|none=>none|some (x,l2)=>some ({ ok:=5,qk:=6,qn:=s,qa:=x },l2)) from rfl)
 obtain ⟨R,hR⟩:∃R,R=pAt ws:=⟨_,rfl⟩
 rw [<-hR] at HE ⊢
 clear hR h
 go_enter Tryz.func63,Tryz.ntmps63
 have c0:=G3 g ws
 go_wp2_with fail
 refine (c0 _ (hW1 _).out).mono ?_
 rintro e w2 hp
 cases e0:BK ws with
 | none=>
  rw [e0] at hp
  have hE:=HE.out
  simp only [e0] at hE
  obtain ⟨rfl,hx⟩:=hp
  go_wp2
  subst hE
  exact ⟨rfl,rfl,xX (HX1 _).out hx (.inl rfl)⟩
 | some xl=>
  obtain ⟨s,l1⟩:=xl
  rw [e0] at hp
  have hE:=HE.out
  simp only [e0] at hE
  replace HE:=AA hE
  clear hE e0
  obtain ⟨rfl,hx,hw⟩:=hp
  have HX2:=AA (xX (HX1 _).out hx (.inl rfl))
  have f2:=kx hx (f1 _) (by omega)
  have hW2:=AA hw
  clear hw hx
  have c1:=D3 g l1
  go_wp2_with fail
  refine (c1 _ hW2.out).mono ?_
  rintro e w3 hp
  cases e1:AM l1 with
  | none=>
   rw [e1] at hp
   have hE:=HE.out
   simp only [e1] at hE
   obtain ⟨rfl,hx⟩:=hp
   go_wp2
   subst hE
   exact ⟨rfl,rfl,xX HX2.out hx (.inl rfl)⟩
  | some xl=>
   obtain ⟨x,l2⟩:=xl
   rw [e1] at hp
   have hE:=HE.out
   simp only [e1] at hE
   replace HE:=AA hE
   clear hE e1
   obtain ⟨rfl,hx,hw⟩:=hp
   have HX3:=AA (xX HX2.out hx (.inl rfl))
   have f3:=kx hx f2 (by omega)
   have hW3:=AA hw
   clear hw hx
   have hcs:∀w',BI w.heap.size w' (.agg (AI 1 ⟨5,0,⟨#[]⟩,0,0,0,none,0,0,6,s,x,0,0,0,⟨#[]⟩,0,0⟩ 0 none 0 0)) { ok:=5,qk:=6,qn:=s,qa:=x }:=fun w'=>⟨none,0,none,0,rfl,RS.nil _,RS.nil _⟩
   have hs1:(AI 1 ⟨5,0,⟨#[]⟩,0,0,0,none,0,0,6,s,x,0,0,0,⟨#[]⟩,0,0⟩ 0 none 0 0).size=19:=rfl
   have h1:(AI 1 ⟨5,0,⟨#[]⟩,0,0,0,none,0,0,6,s,x,0,0,0,⟨#[]⟩,0,0⟩ 0 none 0 0).all (·.oneCell')=true:=BB _ _ _ _ _ _
   have c9:=JW ⟨5,0,⟨#[]⟩,0,0,0,none,0,0,6,s,x,0,0,0,⟨#[]⟩,0,0⟩
   simp only [OpV.cs] at c9
   generalize AI 1 ⟨5,0,⟨#[]⟩,0,0,0,none,0,0,6,s,x,0,0,0,⟨#[]⟩,0,0⟩ 0 none 0 0=Y at *
   go_wp2_with fail
   refine (c9 _).mono ?_
   rintro e w9 ⟨rfl,hb9⟩
   have f9:=kp hb9 f3
   go_wp2_with (refine AG rfl _ _ _ rfl w.heap.size 48 _ Y rfl rfl f9 (by rw [AE,hs1]) (by rw [hs1];rfl) h1 ?_;simp only [Act.put])
   exact EZ Tryz.results63 rfl f9 hs1 (xB HX3.out hb9) (hW3.out.below hb9) HW.out (Nat.le_refl _) (hcs _) HE.out
def J0 (ws:List ByteArray):Option (Cm×List ByteArray) :=
 match BK ws with|none=>none|some (s,l1)=>match AM l1 with|none=>none|some (x,l2)=>match G4 l2 with|none=>none|some (y,l3)=>some ({ ok:=6,nm:=s,t:=x,bits:=y },l3)
theorem bV (g:Nat) (ws:List ByteArray) (w:World) (h:Wd g ws w):Calls Tryz.prog 62 #[.pointer (some ⟨g,0,none⟩)] w (RPm g (J0 ws) w):=by
 have lg:=h.lt
 have HW:=AA h
 have hW1:=fun Z=>AA (h.below (bA (b0 w) (.cells Z 48)))
 have f1:=fun Z=>na w Z 48
 have HX1:=fun Z=>AA (xA (x0 g w (Nat.le_of_lt lg)) (.cells Z 48))
 have HE:=AA (show J0 ws=(match BK ws with|none=>none|some (s,l1)=>match AM l1 with|none=>none|some (x,l2)=>match G4 l2 with|none=>none|some (y,l3)=>some ({ ok:=6,nm:=s,t:=x,bits:=y },l3)) from rfl)
 obtain ⟨R,hR⟩:∃R,R=J0 ws:=⟨_,rfl⟩
 rw [<-hR] at HE ⊢
 clear hR h
 go_enter Tryz.func62,Tryz.ntmps62
 have c0:=G3 g ws
 go_wp2_with fail
 refine (c0 _ (hW1 _).out).mono ?_
 rintro e w2 hp
 cases e0:BK ws with
 | none=>
  rw [e0] at hp
  have hE:=HE.out
  simp only [e0] at hE
  obtain ⟨rfl,hx⟩:=hp
  go_wp2
  subst hE
  exact ⟨rfl,rfl,xX (HX1 _).out hx (.inl rfl)⟩
 | some xl=>
  obtain ⟨s,l1⟩:=xl
  rw [e0] at hp
  have hE:=HE.out
  simp only [e0] at hE
  replace HE:=AA hE
  clear hE e0
  obtain ⟨rfl,hx,hw⟩:=hp
  have HX2:=AA (xX (HX1 _).out hx (.inl rfl))
  have f2:=kx hx (f1 _) (by omega)
  have hW2:=AA hw
  clear hw hx
  have c1:=D3 g l1
  go_wp2_with fail
  refine (c1 _ hW2.out).mono ?_
  rintro e w3 hp
  cases e1:AM l1 with
  | none=>
   rw [e1] at hp
   have hE:=HE.out
   simp only [e1] at hE
   obtain ⟨rfl,hx⟩:=hp
   go_wp2
   subst hE
   exact ⟨rfl,rfl,xX HX2.out hx (.inl rfl)⟩
  | some xl=>
   obtain ⟨x,l2⟩:=xl
   rw [e1] at hp
   have hE:=HE.out
   simp only [e1] at hE
   replace HE:=AA hE
   clear hE e1
   obtain ⟨rfl,hx,hw⟩:=hp
   have HX3:=AA (xX HX2.out hx (.inl rfl))
   have f3:=kx hx f2 (by omega)
   have hW3:=AA hw
   clear hw hx
   have c2:=ZH g l2
   go_wp2_with fail
   refine (c2 _ hW3.out).mono ?_
   rintro e w4 hp
   cases e2:G4 l2 with
   | none=>
    rw [e2] at hp
    have hE:=HE.out
    simp only [e2] at hE
    obtain ⟨rfl,hx⟩:=hp
    go_wp2
    subst hE
    exact ⟨rfl,rfl,xX HX3.out hx (.inl rfl)⟩
   | some xl=>
    obtain ⟨y,l3⟩:=xl
    rw [e2] at hp
    have hE:=HE.out
    simp only [e2] at hE
    replace HE:=AA hE
    clear hE e2
    obtain ⟨rfl,hx,hw⟩:=hp
    have HX4:=AA (xX HX3.out hx (.inl rfl))
    have f4:=kx hx f3 (by omega)
    have hW4:=AA hw
    clear hw hx
    have hcs:∀w',BI w.heap.size w' (.agg (AI 1 ⟨6,0,⟨#[]⟩,0,0,0,none,0,0,0,⟨#[]⟩,0,0,0,0,s,x,y⟩ 0 none 0 0)) { ok:=6,nm:=s,t:=x,bits:=y }:=fun w'=>⟨none,0,none,0,rfl,RS.nil _,RS.nil _⟩
    have hs1:(AI 1 ⟨6,0,⟨#[]⟩,0,0,0,none,0,0,0,⟨#[]⟩,0,0,0,0,s,x,y⟩ 0 none 0 0).size=19:=rfl
    have h1:(AI 1 ⟨6,0,⟨#[]⟩,0,0,0,none,0,0,0,⟨#[]⟩,0,0,0,0,s,x,y⟩ 0 none 0 0).all (·.oneCell')=true:=BB _ _ _ _ _ _
    have c9:=JW ⟨6,0,⟨#[]⟩,0,0,0,none,0,0,0,⟨#[]⟩,0,0,0,0,s,x,y⟩
    simp only [OpV.cs] at c9
    generalize AI 1 ⟨6,0,⟨#[]⟩,0,0,0,none,0,0,0,⟨#[]⟩,0,0,0,0,s,x,y⟩ 0 none 0 0=Y at *
    go_wp2_with fail
    refine (c9 _).mono ?_
    rintro e w9 ⟨rfl,hb9⟩
    have f9:=kp hb9 f4
    go_wp2_with (refine AG rfl _ _ _ rfl w.heap.size 48 _ Y rfl rfl f9 (by rw [AE,hs1]) (by rw [hs1];rfl) h1 ?_;simp only [Act.put])
    exact EZ Tryz.results62 rfl f9 hs1 (xB HX4.out hb9) (hW4.out.below hb9) HW.out (Nat.le_refl _) (hcs _) HE.out
def EK (k:Int) (ws:List ByteArray):Option (Cm×List ByteArray) :=
 match BK ws with
 | none=>none
 | some (s,l1)=>match AM l1 with
  | none=>none
  | some (x,l2)=>match AM l2 with
   | none=>none
   | some (y,l3)=>some ({ ok:=5,qk:=k,qn:=s,qa:=x,qb:=y },l3)
theorem bW (g:Nat) (k:Int) (ws:List ByteArray) (w:World) (h:Wd g ws w):Calls Tryz.prog 71 #[.pointer (some ⟨g,0,none⟩),.int .i64 k] w (RPm g (EK k ws) w):=by
 have lg:=h.lt
 have HW:=AA h
 have hW1:=fun Z=>AA (h.below (bA (b0 w) (.cells Z 48)))
 have f1:=fun Z=>na w Z 48
 have HX1:=fun Z=>AA (xA (x0 g w (Nat.le_of_lt lg)) (.cells Z 48))
 obtain ⟨R,hR⟩:∃R,R=EK k ws:=⟨_,rfl⟩
 have HE:=AA hR
 rw [<-hR]
 clear hR h
 unfold EK at HE
 have c0:=G3 g ws
 go_enter Tryz.func71,Tryz.ntmps71
 go_wp2_with fail
 refine (c0 _ (hW1 _).out).mono ?_
 rintro e w2 hp
 cases e0:BK ws with
 | none=>
  rw [e0] at hp
  have hE:=HE.out
  simp only [e0] at hE
  obtain ⟨rfl,hx⟩:=hp
  go_wp2
  subst hE
  exact ⟨rfl,rfl,xX (HX1 _).out hx (.inl rfl)⟩
 | some xl=>
  obtain ⟨s,l1⟩:=xl
  rw [e0] at hp
  have hE:=HE.out
  simp only [e0] at hE
  replace HE:=AA hE
  clear hE e0
  obtain ⟨rfl,hx,hw⟩:=hp
  have HX2:=AA (xX (HX1 _).out hx (.inl rfl))
  have f2:=kx hx (f1 _) (by omega)
  have hW2:=AA hw
  have hsz2:=HX2.out.size
  clear hw hx
  have c1:=D3 g l1
  go_wp2_with (refine AG rfl _ _ _ rfl w2.heap.size 26 _ #[.int .i64 k,.string s,.int .i64 0,.int .i64 0,.int .i64 0,.int .i64 0] rfl rfl (na _ _ _) EY rfl (by simp [Value.oneCell']) ?_;simp only [Act.put])
  obtain ⟨q,hq⟩:∃q,q=w2.heap.size:=⟨_,rfl⟩
  generalize hT:setRow (w2.alloc _) w2.heap.size _=w3
  obtain ⟨hx3,fq3⟩:=AK (b0 _) (na w2 _ 26) hT
  have HX3:=AA (xX (xA HX2.out (.cells #[.int .i64 0,.string ⟨#[]⟩,.int .i64 0,.int .i64 0,.int .i64 0,.int .i64 0] 26)) hx3 (.inr ⟨hsz2,by omega⟩))
  have hW3:=AA ((hW2.out.below (bA (b0 _) (.cells #[.int .i64 0,.string ⟨#[]⟩,.int .i64 0,.int .i64 0,.int .i64 0,.int .i64 0] 26))).of hx3 (na w2 _ 26) (by decide) (by decide) (HW.out.layX HX3.out))
  have l2:w.heap.size<w2.heap.size:=(AB f2).2.2
  have f3:=kx hx3 (kp (bA (b0 _) (.cells #[.int .i64 0,.string ⟨#[]⟩,.int .i64 0,.int .i64 0,.int .i64 0,.int .i64 0] 26)) f2) (by omega)
  clear hT hx3
  rw [<-hq] at fq3 ⊢
  have hqw:w.heap.size<q:=by omega
  clear hq l2 hsz2
  refine (c1 _ hW3.out).mono ?_
  rintro e w4 hp
  cases e1:AM l1 with
  | none=>
   rw [e1] at hp
   have hE:=HE.out
   simp only [e1] at hE
   obtain ⟨rfl,hx⟩:=hp
   go_wp2
   subst hE
   exact ⟨rfl,rfl,xX HX3.out hx (.inl rfl)⟩
  | some xl=>
   obtain ⟨x,l2⟩:=xl
   rw [e1] at hp
   have hE:=HE.out
   simp only [e1] at hE
   replace HE:=AA hE
   clear hE e1
   obtain ⟨rfl,hx,hw⟩:=hp
   have HX4:=AA (xX HX3.out hx (.inl rfl))
   have f4:=kx hx f3 (by omega)
   have fq4:=kx hx fq3 (by omega)
   have hW4:=AA hw
   clear hw hx
   have c2:=D3 g l2
   obtain ⟨z1,z2,z3⟩:=AB fq4
   go_wp2_with fail
   rw [DH fq4 _ rfl]
   generalize hT:setRow w4 q _=w5
   obtain ⟨hx5,fq5⟩:=AK (b0 _) fq4 hT
   have HX5:=AA (xX HX4.out hx5 (.inr ⟨Nat.le_of_lt hqw,by omega⟩))
   have hW5:=AA (hW4.out.of hx5 fq4 (by decide) (by decide) (HW.out.layX HX5.out))
   have f5:=kx hx5 f4 (by omega)
   clear hT hx5 z1 z2 z3
   simp only [lA1,lZ1,lS1] at fq5
   refine (c2 _ hW5.out).mono ?_
   rintro e w6 hp
   cases e2:AM l2 with
   | none=>
    rw [e2] at hp
    have hE:=HE.out
    simp only [e2] at hE
    obtain ⟨rfl,hx⟩:=hp
    go_wp2
    subst hE
    exact ⟨rfl,rfl,xX HX5.out hx (.inl rfl)⟩
   | some xl=>
    obtain ⟨y,l3⟩:=xl
    rw [e2] at hp
    have hE:=HE.out
    simp only [e2] at hE
    replace HE:=AA hE
    clear hE e2
    obtain ⟨rfl,hx,hw⟩:=hp
    have HX6:=AA (xX HX5.out hx (.inl rfl))
    have f6:=kx hx f5 (by omega)
    have fq6:=kx hx fq5 (by omega)
    have hW6:=AA hw
    clear hw hx
    obtain ⟨z1,z2,z3⟩:=AB fq6
    go_wp2_with fail
    rw [DH fq6 _ rfl]
    generalize hT:setRow w6 q _=w7
    obtain ⟨hx7,fq7⟩:=AK (b0 _) fq6 hT
    have HX7:=AA (xX HX6.out hx7 (.inr ⟨Nat.le_of_lt hqw,by omega⟩))
    have hW7:=AA (hW6.out.of hx7 fq6 (by decide) (by decide) (HW.out.layX HX7.out))
    have f7:=kx hx7 f6 (by omega)
    clear hT hx7 z1 z2 z3
    have hcs:∀w',BI w.heap.size w' (.agg (AI 1 ⟨5,0,⟨#[]⟩,0,0,0,none,0,0,k,s,x,y,0,0,⟨#[]⟩,0,0⟩ 0 none 0 0)) { ok:=5,qk:=k,qn:=s,qa:=x,qb:=y }:=fun w'=>⟨none,0,none,0,rfl,RS.nil _,RS.nil _⟩
    have hs1:(AI 1 ⟨5,0,⟨#[]⟩,0,0,0,none,0,0,k,s,x,y,0,0,⟨#[]⟩,0,0⟩ 0 none 0 0).size=19:=rfl
    have h1:(AI 1 ⟨5,0,⟨#[]⟩,0,0,0,none,0,0,k,s,x,y,0,0,⟨#[]⟩,0,0⟩ 0 none 0 0).all (·.oneCell')=true:=BB _ _ _ _ _ _
    have c9:=JW ⟨5,0,⟨#[]⟩,0,0,0,none,0,0,k,s,x,y,0,0,⟨#[]⟩,0,0⟩
    simp only [OpV.cs] at c9
    generalize AI 1 ⟨5,0,⟨#[]⟩,0,0,0,none,0,0,k,s,x,y,0,0,⟨#[]⟩,0,0⟩ 0 none 0 0=Y at *
    refine (c9 _).mono ?_
    rintro e w9 ⟨rfl,hb9⟩
    have f9:=kp hb9 f7
    go_wp2_with (refine AG rfl _ _ _ rfl w.heap.size 48 _ Y rfl rfl f9 (by rw [AE,hs1]) (by rw [hs1];rfl) h1 ?_;simp only [Act.put])
    exact EZ Tryz.results71 rfl f9 hs1 (xB HX7.out hb9) (hW7.out.below hb9) HW.out (Nat.le_refl _) (hcs _) HE.out
def IW (ws:List ByteArray):Option (Cm×List ByteArray) :=
 match AM ws with|none=>none|some (x,l1)=>some ({ kind:=2,n:=x },l1)
theorem bZ (x:Int) (w:World):(Instr.build 48 #[(0,.int .i64 2),(2,.int .i64 x)]).run Tryz.prog w=.ok (.agg (AI 2 ⟨0,0,⟨#[]⟩,0,0,0,none,0,0,0,⟨#[]⟩,0,0,0,0,⟨#[]⟩,0,0⟩ x none 0 0)) w:=by kernel_rfl
theorem cC (g:Nat) (ws:List ByteArray) (w:World) (h:Wd g ws w):Calls Tryz.prog 65 #[.pointer (some ⟨g,0,none⟩)] w (RPm g (IW ws) w):=by
 have lg:=h.lt
 have HW:=AA h
 have hW1:=fun Z=>AA (h.below (bA (b0 w) (.cells Z 48)))
 have f1:=fun Z=>na w Z 48
 have HX1:=fun Z=>AA (xA (x0 g w (Nat.le_of_lt lg)) (.cells Z 48))
 have HE:=AA (show IW ws=(match AM ws with|none=>none|some (x,l1)=>some ({ kind:=2,n:=x },l1)) from rfl)
 obtain ⟨R,hR⟩:∃R,R=IW ws:=⟨_,rfl⟩
 rw [<-hR] at HE ⊢
 clear hR h
 go_enter Tryz.func65,Tryz.ntmps65
 have c0:=D3 g ws
 go_wp2_with fail
 refine (c0 _ (hW1 _).out).mono ?_
 rintro e w2 hp
 cases e0:AM ws with
 | none=>
  rw [e0] at hp
  have hE:=HE.out
  simp only [e0] at hE
  obtain ⟨rfl,hx⟩:=hp
  go_wp2
  subst hE
  exact ⟨rfl,rfl,xX (HX1 _).out hx (.inl rfl)⟩
 | some xl=>
  obtain ⟨x,l1⟩:=xl
  rw [e0] at hp
  have hE:=HE.out
  simp only [e0] at hE
  replace HE:=AA hE
  clear hE e0
  obtain ⟨rfl,hx,hw⟩:=hp
  have HX2:=AA (xX (HX1 _).out hx (.inl rfl))
  have f2:=kx hx (f1 _) (by omega)
  have hW2:=AA hw
  clear hw hx
  have hcs:∀w',BI w.heap.size w' (.agg (AI 2 ⟨0,0,⟨#[]⟩,0,0,0,none,0,0,0,⟨#[]⟩,0,0,0,0,⟨#[]⟩,0,0⟩ x none 0 0)) { kind:=2,n:=x }:=fun w'=>⟨none,0,none,0,rfl,RS.nil _,RS.nil _⟩
  have hs1:(AI 2 ⟨0,0,⟨#[]⟩,0,0,0,none,0,0,0,⟨#[]⟩,0,0,0,0,⟨#[]⟩,0,0⟩ x none 0 0).size=19:=rfl
  have h1:(AI 2 ⟨0,0,⟨#[]⟩,0,0,0,none,0,0,0,⟨#[]⟩,0,0,0,0,⟨#[]⟩,0,0⟩ x none 0 0).all (·.oneCell')=true:=BB _ _ _ _ _ _
  have hb:=bZ x
  generalize AI 2 ⟨0,0,⟨#[]⟩,0,0,0,none,0,0,0,⟨#[]⟩,0,0,0,0,⟨#[]⟩,0,0⟩ x none 0 0=Y at *
  go_wp2_with (first|(refine BC rfl _ _ rfl (.agg Y) #[(0,.int .i64 2),(2,.int .i64 x)] (by simp [Act.eval]) (hb _) ?_;simp only [Act.put,lA1,lZ1,lS1])|(refine AG rfl _ _ _ rfl w.heap.size 48 _ Y rfl rfl f2 (by rw [AE,hs1]) (by rw [hs1];rfl) h1 ?_;simp only [Act.put]))
  exact EZ Tryz.results65 rfl f2 hs1 HX2.out hW2.out HW.out (Nat.le_refl _) (hcs _) HE.out
theorem cE (g p q:Nat) (k:Int) (ws:List ByteArray) (w:World) (h:Wd g ws w) (hp:w.heap[p]?=some (.cells #[.pointer (some ⟨g,0,none⟩)] 79 (0,0))) (hq:w.heap[q]?=some (.cells #[.int .i64 k] 3 (0,0))) :
  Calls Tryz.prog 70 #[.pointer (some ⟨p,0,none⟩),.pointer (some ⟨q,0,none⟩)] w (RPm g (EK k ws) w):=by
 have lg:=h.lt
 have HW:=AA h
 have hW1:=fun Z=>AA (h.below (bA (b0 w) (.cells Z 48)))
 have f1:=fun Z=>na w Z 48
 have HX1:=fun Z=>AA (xA (x0 g w (Nat.le_of_lt lg)) (.cells Z 48))
 have y1:=fun Z i=>(AB (kp (bA (b0 w) (.cells Z 48)) hp)).1 i
 have y2:=fun Z i=>(AB (kp (bA (b0 w) (.cells Z 48)) hq)).1 i
 have c0:=bW g k ws
 obtain ⟨R,hR⟩:∃R,R=EK k ws:=⟨_,rfl⟩
 rw [<-hR] at c0 ⊢
 clear hR h
 go_enter Tryz.func70,Tryz.ntmps70
 go_wp2_with fail
 refine (c0 _ (hW1 _).out).mono ?_
 rintro e w2 hp
 cases R with
 | none=>
  obtain ⟨rfl,hx⟩:=hp
  go_wp2
  exact ⟨rfl,rfl,xX (HX1 _).out hx (.inl rfl)⟩
 | some xl=>
  obtain ⟨c,l⟩:=xl
  obtain ⟨v,rfl,hc,hx,hw⟩:=hp
  have f2:=kx hx (f1 _) (by omega)
  have HX2:=AA (xX (HX1 _).out hx (.inl rfl))
  obtain ⟨A,ac,M,mc,rfl,-⟩:=id hc
  have hs1:(c.cs A ac M mc).size=19:=JY _ _ _ _ _
  have h1:=JX c A ac M mc
  generalize c.cs A ac M mc=Y at *
  have hW2:=AA hw
  clear hw hx
  go_wp2_with (refine AG rfl _ _ _ rfl w.heap.size 48 _ Y rfl rfl f2 (by rw [AE,hs1]) (by rw [hs1];rfl) h1 ?_;simp only [Act.put])
  exact EZ Tryz.results70 rfl f2 hs1 HX2.out hW2.out HW.out (Nat.le_refl _) (hc.mono (HX1 _).out.size) rfl
theorem cF (g q:Nat) (k:Int) (ws:List ByteArray) (w:World) (h:Wd g ws w) (hq:w.heap[q]?=some (.cells #[.int .i64 k] 3 (0,0))) :
  Calls Tryz.prog 67 #[.pointer (some ⟨q,0,none⟩)] w (RPm g (some ({ ok:=k },ws)) w):=by
 have lg:=h.lt
 have HW:=AA h
 have hW1:=fun Z=>AA (h.below (bA (b0 w) (.cells Z 48)))
 have f1:=fun Z=>na w Z 48
 have HX1:=fun Z=>AA (xA (x0 g w (Nat.le_of_lt lg)) (.cells Z 48))
 have y2:=fun Z i=>(AB (kp (bA (b0 w) (.cells Z 48)) hq)).1 i
 have hcs:∀w',BI w.heap.size w' (.agg (AI 1 ⟨k,0,⟨#[]⟩,0,0,0,none,0,0,0,⟨#[]⟩,0,0,0,0,⟨#[]⟩,0,0⟩ 0 none 0 0)) { ok:=k }:=fun w'=>⟨none,0,none,0,rfl,RS.nil _,RS.nil _⟩
 have hs1:(AI 1 ⟨k,0,⟨#[]⟩,0,0,0,none,0,0,0,⟨#[]⟩,0,0,0,0,⟨#[]⟩,0,0⟩ 0 none 0 0).size=19:=rfl
 have h1:(AI 1 ⟨k,0,⟨#[]⟩,0,0,0,none,0,0,0,⟨#[]⟩,0,0,0,0,⟨#[]⟩,0,0⟩ 0 none 0 0).all (·.oneCell')=true:=BB _ _ _ _ _ _
 have c9:=JW ⟨k,0,⟨#[]⟩,0,0,0,none,0,0,0,⟨#[]⟩,0,0,0,0,⟨#[]⟩,0,0⟩
 simp only [OpV.cs] at c9
 generalize AI 1 ⟨k,0,⟨#[]⟩,0,0,0,none,0,0,0,⟨#[]⟩,0,0,0,0,⟨#[]⟩,0,0⟩ 0 none 0 0=Y at *
 clear h
 go_enter Tryz.func67,Tryz.ntmps67
 go_wp2_with fail
 refine (c9 _).mono ?_
 rintro e w9 ⟨rfl,hb9⟩
 have f9:=kp hb9 (f1 _)
 go_wp2_with (refine AG rfl _ _ _ rfl w.heap.size 48 _ Y rfl rfl f9 (by rw [AE,hs1]) (by rw [hs1];rfl) h1 ?_;simp only [Act.put])
 exact EZ Tryz.results67 rfl f9 hs1 (xB (HX1 _).out hb9) ((hW1 _).out.below hb9) HW.out (Nat.le_refl _) (hcs _) rfl
def E5 (ws:List ByteArray):Option (Cm×List ByteArray) :=
 match AL ws with
 | none=>none
 | some l=>if l.length<=300 then some ({ kind:=3,masks:=l },[]) else none
theorem cG (A:Option Addr) (n c:Nat) (w:World):(Instr.build 48 #[(0,.int .i64 3),(3,.slice A n c)]).run Tryz.prog w=.ok (.agg (AI 3 ⟨0,0,⟨#[]⟩,0,0,0,none,0,0,0,⟨#[]⟩,0,0,0,0,⟨#[]⟩,0,0⟩ 0 A n c)) w:=by kernel_rfl
theorem cI (g:Nat) (ws:List ByteArray) (w:World) (h:Wd g ws w):Calls Tryz.prog 66 #[.pointer (some ⟨g,0,none⟩)] w (RPm g (E5 ws) w):=by
 have hmf:∀(fn:Fn) (first cap:Array Value) (w:World),(Instr.makeFunc fn first cap).run Tryz.prog w=.ok (.func fn first cap) w:=fun _ _ _ _=>rfl
 have lg:=h.lt
 have HW:=AA h
 have hp1:=na w #[.pointer (some ⟨g,0,none⟩)] 79
 have hW2:=fun Z=>AA ((h.below (bA (b0 w) (.cells #[.pointer (some ⟨g,0,none⟩)] 79))).below (bA (b0 _) (.cells Z 48)))
 have f2:∀Z,((w.alloc (.cells #[.pointer (some ⟨g,0,none⟩)] 79)).alloc (.cells Z 48)).heap[w.heap.size+1]?=some (.cells Z 48 (0,0)):=fun Z=>by simpa using na (w.alloc (.cells #[.pointer (some ⟨g,0,none⟩)] 79)) Z 48
 have p2:=fun Z=>kp (bA (b0 _) (.cells Z 48)) hp1
 have y2:=fun Z i=>(AB (p2 Z)).1 i
 have HX2:=fun Z=>AA (xA (xA (x0 g w (Nat.le_of_lt lg)) (.cells #[.pointer (some ⟨g,0,none⟩)] 79)) (.cells Z 48))
 have c0:=fun Z=>ZK g w.heap.size ws _ (hW2 Z).out (p2 Z)
 have c1:=G1
 have c2:=G2
 obtain ⟨R,hR⟩:∃R,R=E5 ws:=⟨_,rfl⟩
 have HE:=AA hR
 rw [<-hR]
 unfold E5 at HE
 clear hR h
 go_enter Tryz.func66,Tryz.ntmps66
 go_wp2_with fail
 refine (c0 _).mono ?_
 rintro e w3 hp
 cases e0:AL ws with
 | none=>
  rw [e0] at hp
  have hE:=HE.out
  simp only [e0] at hE
  obtain ⟨rfl,hx⟩:=hp
  go_wp2
  subst hE
  exact ⟨rfl,rfl,xX (HX2 _).out hx (.inl rfl)⟩
 | some l=>
  rw [e0] at hp
  have hE:=HE.out
  simp only [e0] at hE
  replace HE:=AA hE
  clear hE e0
  obtain ⟨v,rfl,hx,hw,ho,ho0⟩:=hp
  obtain ⟨A,c,rfl,hk⟩:=ho.crS ho0
  have HK:=AA (hk.mono (HX2 _).out.size)
  have HX3:=AA (xX (HX2 _).out hx (.inl rfl))
  have f3:=kx hx (f2 _) (by omega)
  have hW3:=AA hw
  clear hw hx hk ho ho0
  by_cases h300:l.length<=300
  ·have hE:=HE.out
   rw [if_pos h300] at hE
   replace HE:=AA hE
   have e1:decide ((l.length:Int)<=300)=true:=decide_eq_true (by omega)
   clear hE
   have hcs:∀w',RS 3 1 w.heap.size w' A l.length c (AH l)->BI w.heap.size w' (.agg (AI 3 ⟨0,0,⟨#[]⟩,0,0,0,none,0,0,0,⟨#[]⟩,0,0,0,0,⟨#[]⟩,0,0⟩ 0 A l.length c)) { kind:=3,masks:=l }:=fun w' hr=>⟨none,0,A,c,rfl,RS.nil _,hr⟩
   have hs1:(AI 3 ⟨0,0,⟨#[]⟩,0,0,0,none,0,0,0,⟨#[]⟩,0,0,0,0,⟨#[]⟩,0,0⟩ 0 A l.length c).size=19:=rfl
   have h1:(AI 3 ⟨0,0,⟨#[]⟩,0,0,0,none,0,0,0,⟨#[]⟩,0,0,0,0,⟨#[]⟩,0,0⟩ 0 A l.length c).all (·.oneCell')=true:=BB _ _ _ _ _ _
   have hb:=cG A l.length c
   generalize AI 3 ⟨0,0,⟨#[]⟩,0,0,0,none,0,0,0,⟨#[]⟩,0,0,0,0,⟨#[]⟩,0,0⟩ 0 A l.length c=Y at *
   go_wp2_with fail
   refine (c1 _).mono ?_
   rintro e w4 ⟨rfl,rfl⟩
   go_wp2_with (first|(refine BC rfl _ _ rfl (.agg Y) #[(0,.int .i64 3),(3,.slice A l.length c)] (by simp [Act.eval]) (hb _) ?_;simp only [Act.put,lA1,lZ1,lS1])|(refine AG rfl _ _ _ rfl (w.heap.size+1) 48 _ Y rfl rfl f3 (by rw [AE,hs1]) (by rw [hs1];rfl) h1 ?_;simp only [Act.put]))
   exact EZ Tryz.results66 rfl f3 hs1 HX3.out hW3.out HW.out (by omega) (hcs _ HK.out) HE.out
  ·have hE:=HE.out
   rw [if_neg h300] at hE
   have e1:decide ((l.length:Int)<=300)=false:=decide_eq_false (by omega)
   go_wp2_with fail
   refine (c2 _).mono ?_
   rintro e w4 ⟨rfl,rfl⟩
   go_wp2
   subst hE
   exact ⟨rfl,rfl,HX3.out⟩
def E6 (ws:List ByteArray):Option (Cm×List ByteArray) :=
 match BK ws with
 | none=>none
 | some (s,l1)=>match B7 l1 with
  | none=>none
  | some ps=>if 1<=ps.length/\ps.length<=20 then some ({ ok:=1,mkd:=3,mn:=s,pts:=ps },[]) else none
theorem cK (g:Nat) (ws:List ByteArray) (w:World) (h:Wd g ws w):Calls Tryz.prog 60 #[.pointer (some ⟨g,0,none⟩)] w (RPm g (E6 ws) w):=by
 have hmf:∀(fn:Fn) (first cap:Array Value) (w:World),(Instr.makeFunc fn first cap).run Tryz.prog w=.ok (.func fn first cap) w:=fun _ _ _ _=>rfl
 have lg:=h.lt
 have HW:=AA h
 have hp1:=na w #[.pointer (some ⟨g,0,none⟩)] 79
 have hW2:=fun Z=>AA ((h.below (bA (b0 w) (.cells #[.pointer (some ⟨g,0,none⟩)] 79))).below (bA (b0 _) (.cells Z 48)))
 have f2:∀Z,((w.alloc (.cells #[.pointer (some ⟨g,0,none⟩)] 79)).alloc (.cells Z 48)).heap[w.heap.size+1]?=some (.cells Z 48 (0,0)):=fun Z=>by simpa using na (w.alloc (.cells #[.pointer (some ⟨g,0,none⟩)] 79)) Z 48
 have p2:=fun Z=>kp (bA (b0 _) (.cells Z 48)) hp1
 have y2:=fun Z i=>(AB (p2 Z)).1 i
 have HX2:=fun Z=>AA (xA (xA (x0 g w (Nat.le_of_lt lg)) (.cells #[.pointer (some ⟨g,0,none⟩)] 79)) (.cells Z 48))
 have c0:=fun Z=>G3 g ws _ (hW2 Z).out
 have c1:=G1
 have c2:=G2
 obtain ⟨R,hR⟩:∃R,R=E6 ws:=⟨_,rfl⟩
 have HE:=AA hR
 rw [<-hR]
 unfold E6 at HE
 clear hR h
 go_enter Tryz.func60,Tryz.ntmps60
 go_wp2_with fail
 refine (c0 _).mono ?_
 rintro e w3 hp
 cases e0:BK ws with
 | none=>
  rw [e0] at hp
  have hE:=HE.out
  simp only [e0] at hE
  obtain ⟨rfl,hx⟩:=hp
  go_wp2
  subst hE
  exact ⟨rfl,rfl,xX (HX2 _).out hx (.inl rfl)⟩
 | some sl=>
  obtain ⟨s,l1⟩:=sl
  rw [e0] at hp
  have hE:=HE.out
  simp only [e0] at hE
  replace HE:=AA hE
  clear hE e0
  obtain ⟨rfl,hx,hw⟩:=hp
  have HX3:=AA (xX (HX2 _).out hx (.inl rfl))
  have f3:=kx hx (f2 _) (by omega)
  have p3:=kx hx (p2 _) (by omega)
  have hW3:=AA hw
  have l3:w.heap.size+1<w3.heap.size:=(AB f3).2.2
  clear hw hx y2
  have y4:∀Z Z' i,(setRow (w3.alloc (.cells Z 24)) w3.heap.size Z').cell? ⟨w.heap.size,i,none⟩=(#[.pointer (some ⟨g,0,none⟩)]:Array Value)[i]?:=fun Z Z' i=>
   (AB ((BD (w:=w3.alloc (.cells Z 24)) (g:=w3.heap.size) Z' (by omega)).trans (kp (bA (b0 _) (.cells Z 24)) p3))).1 i
  go_wp2_with (refine AG rfl _ _ _ rfl w3.heap.size 24 _ #[.int .i64 3,.string s,.int .i64 0,.int .i64 0,.int .i64 0,.slice none 0 0] rfl rfl (na _ _ _) AY rfl (by simp [Value.oneCell']) ?_;simp only [Act.put])
  obtain ⟨q,hq⟩:∃q,q=w3.heap.size:=⟨_,rfl⟩
  clear y4
  generalize hT:setRow (w3.alloc _) w3.heap.size _=w4
  obtain ⟨hx4,fq4⟩:=AK (b0 _) (na w3 _ 24) hT
  have HX4:=AA (xX (xA HX3.out (.cells #[.int .i64 0,.string ⟨#[]⟩,.int .i64 0,.int .i64 0,.int .i64 0,.slice none 0 0] 24)) hx4 (.inr ⟨HX3.out.size,by omega⟩))
  have hW4:=AA ((hW3.out.below (bA (b0 _) (.cells #[.int .i64 0,.string ⟨#[]⟩,.int .i64 0,.int .i64 0,.int .i64 0,.slice none 0 0] 24))).of hx4 (na w3 _ 24) (by decide) (by decide) (HW.out.layX HX4.out))
  have f4:=kx hx4 (kp (bA (b0 _) (.cells #[.int .i64 0,.string ⟨#[]⟩,.int .i64 0,.int .i64 0,.int .i64 0,.slice none 0 0] 24)) f3) (by omega)
  have p4:=kx hx4 (kp (bA (b0 _) (.cells #[.int .i64 0,.string ⟨#[]⟩,.int .i64 0,.int .i64 0,.int .i64 0,.slice none 0 0] 24)) p3) (by omega)
  clear hT hx4
  rw [<-hq] at fq4 ⊢
  have hqw:w.heap.size+1<q:=by omega
  clear hq l3
  refine (ZN g w.heap.size l1 w4 hW4.out p4).mono ?_
  rintro e w5 hp
  cases e1:B7 l1 with
  | none=>
   rw [e1] at hp
   have hE:=HE.out
   simp only [e1] at hE
   obtain ⟨rfl,hx⟩:=hp
   go_wp2
   subst hE
   exact ⟨rfl,rfl,xX HX4.out hx (.inl rfl)⟩
  | some ps=>
   rw [e1] at hp
   have hE:=HE.out
   simp only [e1] at hE
   replace HE:=AA hE
   clear hE e1
   obtain ⟨v,rfl,hx,hw,ho,ho0⟩:=hp
   obtain ⟨A,c,rfl,hk⟩:=ho.crS ho0
   have HK:=AA (hk.mono HX4.out.size)
   have HX5:=AA (xX HX4.out hx (.inl rfl))
   have f5:=kx hx f4 (by omega)
   have fq5:=kx hx fq4 (by omega)
   have hW5:=AA hw
   clear hw hx hk ho ho0
   obtain ⟨z1,z2,z3⟩:=AB fq5
   by_cases hlo:1<=ps.length
   ·have e1:decide ((1:Int)<=(ps.length:Int))=true:=decide_eq_true (by omega)
    by_cases hhi:ps.length<=20
    ·have e2:decide ((ps.length:Int)<=20)=true:=decide_eq_true (by omega)
     have hE:=HE.out
     rw [if_pos ⟨hlo,hhi⟩] at hE
     replace HE:=AA hE
     clear hE
     go_wp2_with fail
     rw [DH fq5 _ rfl]
     generalize hT:setRow w5 q _=w6
     obtain ⟨hx6,fq6⟩:=AK (b0 _) fq5 hT
     have HX6:=AA (xX HX5.out hx6 (.inr ⟨by omega,by omega⟩))
     have hW6:=AA (hW5.out.of hx6 fq5 (by decide) (by decide) (HW.out.layX HX6.out))
     have HK6:=AA (HK.out.exc hx6 fq5 (by decide))
     have f6:=kx hx6 f5 (by omega)
     clear hT hx6 z1 z2 z3
     simp only [lA1,lZ1,lS1] at fq6
     obtain ⟨z1,z2,z3⟩:=AB fq6
     have hcs:∀w',RS 99 2 w.heap.size w' A ps.length c (AU ps)->BI w.heap.size w' (.agg (AI 1 ⟨1,3,s,0,0,0,A,ps.length,c,0,⟨#[]⟩,0,0,0,0,⟨#[]⟩,0,0⟩ 0 none 0 0)) { ok:=1,mkd:=3,mn:=s,pts:=ps }:=fun w' hr=>⟨A,c,none,0,rfl,hr,RS.nil _⟩
     have hs1:(AI 1 ⟨1,3,s,0,0,0,A,ps.length,c,0,⟨#[]⟩,0,0,0,0,⟨#[]⟩,0,0⟩ 0 none 0 0).size=19:=rfl
     have h1:(AI 1 ⟨1,3,s,0,0,0,A,ps.length,c,0,⟨#[]⟩,0,0,0,0,⟨#[]⟩,0,0⟩ 0 none 0 0).all (·.oneCell')=true:=BB _ _ _ _ _ _
     have c9:=NF 3 0 0 0 s A ps.length c
     generalize AI 1 ⟨1,3,s,0,0,0,A,ps.length,c,0,⟨#[]⟩,0,0,0,0,⟨#[]⟩,0,0⟩ 0 none 0 0=Y at *
     refine (c1 _).mono ?_
     rintro e w7 ⟨rfl,rfl⟩
     go_wp2_with fail
     refine (c9 _).mono ?_
     rintro e w9 ⟨rfl,hb9⟩
     have f9:=kp hb9 f6
     go_wp2_with (refine AG rfl _ _ _ rfl (w.heap.size+1) 48 _ Y rfl rfl f9 (by rw [AE,hs1]) (by rw [hs1];rfl) h1 ?_;simp only [Act.put])
     exact EZ Tryz.results60 rfl f9 hs1 (xB HX6.out hb9) (hW6.out.below hb9) HW.out (by omega) (hcs _ (HK6.out.below hb9)) HE.out
    ·have e2:decide ((ps.length:Int)<=20)=false:=decide_eq_false (by omega)
     have hE:=HE.out
     rw [if_neg (by omega)] at hE
     go_wp2_with fail
     rw [DH fq5 _ rfl]
     generalize hT:setRow w5 q _=w6
     obtain ⟨hx6,fq6⟩:=AK (b0 _) fq5 hT
     have HX6:=AA (xX HX5.out hx6 (.inr ⟨by omega,by omega⟩))
     refine (c2 _).mono ?_
     rintro e w7 ⟨rfl,rfl⟩
     go_wp2
     subst hE
     exact ⟨rfl,rfl,HX6.out⟩
   ·have e1:decide ((1:Int)<=(ps.length:Int))=false:=decide_eq_false (by omega)
    have hE:=HE.out
    rw [if_neg (by omega)] at hE
    go_wp2_with fail
    rw [DH fq5 _ rfl]
    generalize hT:setRow w5 q _=w6
    obtain ⟨hx6,fq6⟩:=AK (b0 _) fq5 hT
    have HX6:=AA (xX HX5.out hx6 (.inr ⟨by omega,by omega⟩))
    refine (c2 _).mono ?_
    rintro e w7 ⟨rfl,rfl⟩
    go_wp2
    subst hE
    exact ⟨rfl,rfl,HX6.out⟩
def CT (l:List UInt8):Bool:=l.all fun b=>decide (32<=b.toNat) && decide (b.toNat<=126)
theorem cL (s:ByteArray) (hs:s.size<=1000000) (w:World):Calls Tryz.prog 31 #[.string s] w fun e w'=>e=.returned (.bool (CT s.data.toList))/\w'=w:=by
 obtain ⟨R,hR⟩:∃R,R=CT s.data.toList:=⟨_,rfl⟩
 have HR:=AA hR
 rw [<-hR]
 clear hR
 go_enter Tryz.func31,Tryz.ntmps31
 go_wp2_with fail
 go_loopw [6] (fun vn wr=>∃k:Nat,wr=w/\vn=.int .i64 (k:Int)/\k<=s.size/\Hid (CT s.data.toList=CT (s.data.toList.drop k))) (fun vn _=>s.size-(intOf vn).toNat)
 case atStart=>exact ⟨0,rfl,rfl,by omega,AA rfl⟩
 case round=>
  obtain ⟨k,rfl,rfl,hk,HH⟩:=hrel
  by_cases hp:k<s.size
  ·have e1:decide ((k:Int)<(s.size:Int))=true:=decide_eq_true (by omega)
   have hdrop:=F6 s k hp
   rw [hdrop] at HH
   by_cases hlo:(s[k]'hp).toNat<32
   ·have HN:Hid (CT s.data.toList=false):=AA (by rw [HH.out];simp [CT];omega)
    have e2:decide (((s[k]'hp).toNat:Int)<32)=true:=decide_eq_true (by omega)
    clear HH hdrop
    go_wp2
    go_ret
    have hR:=HR.out
    rw [HN.out] at hR
    subst hR
    exact ⟨rfl,rfl⟩
   ·have e2:decide (((s[k]'hp).toNat:Int)<32)=false:=decide_eq_false (by omega)
    by_cases hhi:126<(s[k]'hp).toNat
    ·have HN:Hid (CT s.data.toList=false):=AA (by rw [HH.out];simp [CT];omega)
     have e3:decide ((126:Int)<((s[k]'hp).toNat:Int))=true:=decide_eq_true (by omega)
     clear HH hdrop
     go_wp2
     go_ret
     have hR:=HR.out
     rw [HN.out] at hR
     subst hR
     exact ⟨rfl,rfl⟩
    ·have e3:decide ((126:Int)<((s[k]'hp).toNat:Int))=false:=decide_eq_false (by omega)
     have HN:Hid (CT s.data.toList=CT (s.data.toList.drop (k+1))):=AA (by rw [HH.out];simp [CT];omega)
     clear HH hdrop
     go_wp2
     go_roundw
     case rel=>exact ⟨k+1,by trivial,by go_num,by omega,HN⟩
     case measure=>simp [intOf];omega
  ·have e1:decide ((k:Int)<(s.size:Int))=false:=decide_eq_false (by omega)
   go_wp2
   go_ret
   have hR:=HR.out
   rw [HH.out,List.drop_eq_nil_of_le (by simp;omega)] at hR
   subst hR
   exact ⟨rfl,rfl⟩
def B8:List ByteArray->ByteArray->Nat->Int
 | [],_,_=>-1
 | s::l,x,k=>if x=s then (k:Int) else B8 l x (k+1)
theorem TU (A:Option Addr) (c:Nat) (ss:List ByteArray) (x:ByteArray) (w:World) (hr:RV 9 w A c (AC ss)) (hl:ss.length<=1000000) :
  Calls Tryz.prog 57 #[.slice A ss.length c,.string x] w fun e w'=>e=.returned (.int .i64 (B8 ss x 0))/\w'=w:=by
 obtain ⟨R,hR⟩:∃R,R=B8 ss x 0:=⟨_,rfl⟩
 have HR:=AA hR
 rw [<-hR]
 have HV:=AA hr
 clear hR hr
 go_enter Tryz.func57,Tryz.ntmps57
 go_wp2_with fail
 go_loopw [8] (fun vn wr=>∃k:Nat,wr=w/\vn=.int .i64 (k:Int)/\k<=ss.length/\Hid (R=B8 (ss.drop k) x k)) (fun vn _=>ss.length-(intOf vn).toNat)
 case atStart=>exact ⟨0,rfl,rfl,by omega,AA HR.out⟩
 case round=>
  obtain ⟨k,rfl,rfl,hk,HH⟩:=hrel
  by_cases hp:k<ss.length
  ·have e1:decide ((k:Int)<(ss.length:Int))=true:=decide_eq_true (by omega)
   obtain ⟨g,o,rfl,hc⟩:=HV.out.at_ (k:=k) (by rw [BG];omega)
   have hg:=TE ss k hp
   have e3:(AC ss)[k]'(by rw [BG];omega)=.string ss[k]:=by simp [AC]
   rw [e3] at hc
   have hdrop:ss.drop k=ss[k]::ss.drop (k+1):=List.drop_eq_getElem_cons hp
   rw [hdrop] at HH
   obtain ⟨b,hb⟩:∃b,b=ss[k]'hp:=⟨_,rfl⟩
   rw [<-hb] at HH hc
   clear hb e3 hdrop hg
   by_cases hx:x=b
   ·have e2:(x.toList== b.toList)=true:=by rw [hx];exact ZB b
    have hR:=HH.out
    simp only [B8,if_pos hx] at hR
    clear HH hx
    go_wp2
    go_ret
    subst hR
    exact ⟨rfl,rfl⟩
   ·have e2:=TG hx
    have HN:Hid (R=B8 (ss.drop (k+1)) x (k+1)):=AA (by rw [HH.out];simp only [B8,if_neg hx])
    clear HH hx
    go_wp2
    go_roundw
    case rel=>exact ⟨k+1,by trivial,by go_num,by omega,HN⟩
    case measure=>simp [intOf];omega
  ·have e1:decide ((k:Int)<(ss.length:Int))=false:=decide_eq_false (by omega)
   have hR:=HH.out
   rw [List.drop_eq_nil_of_le (by omega)] at hR
   simp only [B8] at hR
   go_wp2
   go_ret
   subst hR
   exact ⟨rfl,rfl⟩
theorem cM (A:Option Addr) (c:Nat) (ss:List ByteArray) (x:ByteArray) (w:World) (hr:RV 9 w A c (AC ss)) (hl:ss.length<=1000000) :
  Calls Tryz.prog 33 #[.slice A ss.length c,.string x] w fun e w'=>e=.returned (.bool (decide (0<=B8 ss x 0)))/\w'=w:=by
 have c0:=TU A c ss x w hr hl
 generalize B8 ss x 0=R at *
 go_enter Tryz.func33,Tryz.ntmps33
 go_wp2_with fail
 refine c0.mono ?_
 rintro e w2 ⟨rfl,rfl⟩
 go_wp2
 go_ret
 exact ⟨rfl,rfl⟩
def CG:ByteArray:=⟨#[99,111,117,110,116]⟩
def CK:ByteArray:=⟨#[108,101,97,115,116]⟩
def CU:ByteArray:=⟨#[109,111,115,116]⟩
def C1:ByteArray:=⟨#[115,117,109]⟩
def C8:ByteArray:=⟨#[109,101,97,110]⟩
def wAt:ByteArray:=⟨#[97,116]⟩
def EN:ByteArray:=⟨#[115,99,97,110]⟩
def E7:ByteArray:=⟨#[98,117,99,107,101,116,115]⟩
def DN:List ByteArray:=[⟨#[]⟩,CG,CK,CU,C1,C8,wAt,EN,E7]
theorem PG:(Tryz.prog.info? 141).map (·.size)=some 9:=by kernel_rfl
theorem cO {w:World} {g:Nat} {cs:Array Value} (hg:w.heap[g]?=some (.cells cs 141 (0,0))) (hs:cs.size=9):(loadVar 141 ⟨g,0,none⟩).run Tryz.prog w=.ok (.agg cs) w :=
 run_loadVar_row w g 141 141 cs (0,0) _ hg Tryz.underlying141 rfl (by rw [PG,hs])
theorem PH (w:World):Calls Tryz.prog 69 #[] w fun e w'=>e=.returned (.agg (AC DN).toArray)/\Below w.heap.size w w':=by
 have hs1:(AC DN).toArray.size=9:=rfl
 have h1:(AC DN).toArray.all (·.oneCell')=true:=by simp [AC,DN,Value.oneCell']
 have hb:∀w,(Instr.build 141 #[(1,.string CG),(2,.string CK),(3,.string CU),(4,.string C1),(5,.string C8),(6,.string wAt),(7,.string EN),(8,.string E7)]).run Tryz.prog w=.ok (.agg (AC DN).toArray) w:=fun w=>by kernel_rfl
 generalize (AC DN).toArray=Y at *
 go_enter Tryz.func69,Tryz.ntmps69
 go_wp2_with (first
  | (refine BC rfl _ _ rfl (.agg Y) #[(1,.string CG),(2,.string CK),(3,.string CU),(4,.string C1),(5,.string C8),(6,.string wAt),(7,.string EN),(8,.string E7)] (by simp [Act.eval,CG,CK,CU,C1,C8,wAt,EN,E7]) (hb _) ?_;simp only [Act.put,lA1,lZ1,lS1])
  | (refine AG rfl _ _ _ rfl w.heap.size 141 _ Y rfl rfl (na _ _ _) (by rw [PG,hs1]) (by rw [hs1];rfl) h1 ?_;simp only [Act.put]))
 generalize hT:setRow (w.alloc _) w.heap.size _=w2
 obtain ⟨hb2,hg2⟩:=ND (bA (b0 w) _) (Nat.le_refl _) (na _ _ _) hT
 exact bodyPost_ret (v:=.agg Y) (G5 Tryz.results69 rfl (cO hg2 hs1)) rfl ⟨rfl,hb2⟩
theorem cP (w:World):Calls Tryz.prog 119 #[] w fun e w'=>∃g,e=.returned (.slice (some ⟨g,1,none⟩) 5 5)/\w'.heap[g]?=some (.cells (AC DN).toArray 141 (0,0))/\Below w.heap.size w w':=by
 have c0:=PH w
 have hs1:(AC DN).toArray.size=9:=rfl
 have h1:(AC DN).toArray.all (·.oneCell')=true:=by simp [AC,DN,Value.oneCell']
 generalize (AC DN).toArray=Y at *
 go_enter Tryz.func119,Tryz.ntmps119
 go_wp2_with fail
 refine c0.mono ?_
 rintro e w2 ⟨rfl,hb2⟩
 go_wp2_with (refine AG rfl _ _ _ rfl w2.heap.size 141 _ Y rfl rfl (na _ _ _) (by rw [PG,hs1]) (by rw [hs1];rfl) h1 ?_;simp only [Act.put])
 generalize hT:setRow (w2.alloc _) w2.heap.size _=w3
 obtain ⟨hb3,hg3⟩:=ND (bA (b0 w2) _) (Nat.le_refl _) (na _ _ _) hT
 go_ret
 exact ⟨_,rfl,hg3,bB hb2 hb3⟩
def E8:List ByteArray:=[CG,CK,CU,C1,C8]
def E9 (ws:List ByteArray):Option (Cm×List ByteArray) :=
 match BK ws with
 | none=>none
 | some (s,l1)=>match CS l1 with
  | none=>none
  | some (x,l2)=>if 0<=B8 E8 x 0 then
    (match AM l2 with
    | none=>none
    | some (a,l3)=>match AM l3 with
     | none=>none
     | some (b,l4)=>match AM l4 with
      | none=>none
      | some (n,l5)=>some ({ ok:=5,qk:=8,qn:=s,qa:=a,qb:=b,qw:=B8 E8 x 0+1,qN:=n },l5))
   else none
theorem PI (x:ByteArray):∀(l:List ByteArray) (k:Nat),B8 l x k<=((k+l.length:Nat):Int)/\(-1<=B8 l x k)
 | [],k=>by simp only [B8,List.length_nil];omega
 | s::l,k=>by
  have:=PI x l (k+1)
  simp only [B8,List.length_cons]
  split <;> omega
theorem cQ (g:Nat) (ws:List ByteArray) (w:World) (h:Wd g ws w):Calls Tryz.prog 64 #[.pointer (some ⟨g,0,none⟩)] w (RPm g (E9 ws) w):=by
 have lg:=h.lt
 have HW:=AA h
 have hW1:=fun Z=>AA (h.below (bA (b0 w) (.cells Z 48)))
 have f1:=fun Z=>na w Z 48
 have HX1:=fun Z=>AA (xA (x0 g w (Nat.le_of_lt lg)) (.cells Z 48))
 obtain ⟨R,hR⟩:∃R,R=E9 ws:=⟨_,rfl⟩
 have HE:=AA hR
 rw [<-hR]
 clear hR h
 unfold E9 at HE
 have c0:=G3 g ws
 have y1:=G1
 have y2:=G2
 go_enter Tryz.func64,Tryz.ntmps64
 go_wp2_with fail
 refine (c0 _ (hW1 _).out).mono ?_
 rintro e w2 hp
 cases e0:BK ws with
 | none=>
  rw [e0] at hp
  have hE:=HE.out
  simp only [e0] at hE
  obtain ⟨rfl,hx⟩:=hp
  go_wp2
  subst hE
  exact ⟨rfl,rfl,xX (HX1 _).out hx (.inl rfl)⟩
 | some xl=>
  obtain ⟨s,l1⟩:=xl
  rw [e0] at hp
  have hE:=HE.out
  simp only [e0] at hE
  replace HE:=AA hE
  clear hE e0
  obtain ⟨rfl,hx,hw⟩:=hp
  have HX2:=AA (xX (HX1 _).out hx (.inl rfl))
  have f2:=kx hx (f1 _) (by omega)
  have hW2:=AA hw
  have hsz2:=HX2.out.size
  clear hw hx
  have c1:=cP
  go_wp2_with (refine AG rfl _ _ _ rfl w2.heap.size 26 _ #[.int .i64 8,.string s,.int .i64 0,.int .i64 0,.int .i64 0,.int .i64 0] rfl rfl (na _ _ _) EY rfl (by simp [Value.oneCell']) ?_;simp only [Act.put])
  obtain ⟨q,hq⟩:∃q,q=w2.heap.size:=⟨_,rfl⟩
  generalize hT:setRow (w2.alloc _) w2.heap.size _=w3
  obtain ⟨hx3,fq3⟩:=AK (b0 _) (na w2 _ 26) hT
  have HX3:=AA (xX (xA HX2.out (.cells #[.int .i64 0,.string ⟨#[]⟩,.int .i64 0,.int .i64 0,.int .i64 0,.int .i64 0] 26)) hx3 (.inr ⟨hsz2,by omega⟩))
  have hW3:=AA ((hW2.out.below (bA (b0 _) (.cells #[.int .i64 0,.string ⟨#[]⟩,.int .i64 0,.int .i64 0,.int .i64 0,.int .i64 0] 26))).of hx3 (na w2 _ 26) (by decide) (by decide) (HW.out.layX HX3.out))
  have l2:w.heap.size<w2.heap.size:=(AB f2).2.2
  have f3:=kx hx3 (kp (bA (b0 _) (.cells #[.int .i64 0,.string ⟨#[]⟩,.int .i64 0,.int .i64 0,.int .i64 0,.int .i64 0] 26)) f2) (by omega)
  clear hT hx3
  rw [<-hq] at fq3 ⊢
  have hqw:w.heap.size<q:=by omega
  clear hq l2 hsz2
  refine (c1 _).mono ?_
  rintro e w4 ⟨gW,rfl,hgW,hb4⟩
  have c2:=Tryz.slices_Clone_string gW 1 5 5 E8 w4 (by decide) (by decide) (fun j hj=>by
   rw [(AB hgW).1]
   have:j=0∨j=1∨j=2∨j=3∨j=4:=by simp [E8] at hj;omega
   rcases this with rfl|rfl|rfl|rfl|rfl <;> rfl)
  go_wp2_with fail
  refine c2.mono ?_
  rintro e w5 ⟨vR,rfl,hoR,-,hb5⟩
  have hB5:=bB hb4 hb5
  have HX5:=AA (xB HX3.out hB5)
  have hW5:=AA (hW3.out.below hB5)
  have f5:=kp hB5 f3
  have fq5:=kp hB5 fq3
  obtain ⟨AR,cR,rfl,hRR⟩:=AX.cr (T:=9) (B:=w4.heap.size) (w:=w5) (v:=vR) (l:=AC E8) hoR
  have c3:=K3 g l1
  clear c2 hoR hgW
  go_wp2_with fail
  refine (c3 _ hW5.out).mono ?_
  rintro e w6 hp
  cases e1:CS l1 with
  | none=>
   rw [e1] at hp
   have hE:=HE.out
   simp only [e1] at hE
   obtain ⟨rfl,hx⟩:=hp
   go_wp2
   subst hE
   exact ⟨rfl,rfl,xX HX5.out hx (.inl rfl)⟩
  | some xl=>
   obtain ⟨x,l2⟩:=xl
   rw [e1] at hp
   have hE:=HE.out
   simp only [e1] at hE
   replace HE:=AA hE
   clear hE e1
   obtain ⟨K,hK⟩:∃K,K=B8 E8 x 0:=⟨_,rfl⟩
   have hK1:-1<=K:=by rw [hK];exact (PI x E8 0).2
   have hK2:K<=5:=by rw [hK];exact (PI x E8 0).1
   obtain ⟨rfl,hx,hw⟩:=hp
   have HX6:=AA (xX HX5.out hx (.inl rfl))
   have f6:=kx hx f5 (by omega)
   have fq6:=kx hx fq5 (by omega)
   have hW6:=AA hw
   obtain ⟨A0,c00,hg0,-⟩:=hW5.out.hg
   have hRR6:=hRR.exc hx hg0 (by decide)
   have c4:=TU AR cR E8 x w6 hRR6 (by decide)
   clear hw hx
   go_wp2_with fail
   refine c4.mono ?_
   rintro e w7 ⟨rfl,rfl⟩
   rw [<-hK] at HE ⊢
   obtain ⟨z1,z2,z3⟩:=AB fq6
   clear hK hRR hRR6 c4 hg0
   by_cases hk0:0<=K
   ·have eK:decide ((1:Int)<=K+1)=true:=decide_eq_true (by omega)
    have hE:=HE.out
    rw [if_pos hk0] at hE
    replace HE:=AA hE
    clear hE
    go_wp2_with fail
    rw [DH fq6 _ rfl]
    generalize hT:setRow w7 q _=w8
    obtain ⟨hx8,fq8⟩:=AK (b0 _) fq6 hT
    have HX8:=AA (xX HX6.out hx8 (.inr ⟨Nat.le_of_lt hqw,by omega⟩))
    have hW8:=AA (hW6.out.of hx8 fq6 (by decide) (by decide) (HW.out.layX HX8.out))
    have f8:=kx hx8 f6 (by omega)
    clear hT hx8 z1 z2 z3
    simp only [lA1,lZ1,lS1] at fq8
    refine (y1 _).mono ?_
    rintro e w9 ⟨rfl,rfl⟩
    have d0:=D3 g l2
    go_wp2_with fail
    refine (d0 _ hW8.out).mono ?_
    rintro e w20 hp
    cases e9:AM l2 with
    | none=>
     rw [e9] at hp
     have hE:=HE.out
     simp only [e9] at hE
     obtain ⟨rfl,hx⟩:=hp
     go_wp2
     subst hE
     exact ⟨rfl,rfl,xX HX8.out hx (.inl rfl)⟩
    | some xl=>
     obtain ⟨a,l3⟩:=xl
     rw [e9] at hp
     have hE:=HE.out
     simp only [e9] at hE
     replace HE:=AA hE
     clear hE e9
     obtain ⟨rfl,hx,hw⟩:=hp
     have HX20:=AA (xX HX8.out hx (.inl rfl))
     have f20:=kx hx f8 (by omega)
     have fq20:=kx hx fq8 (by omega)
     have hW20:=AA hw
     clear hw hx
     obtain ⟨z1,z2,z3⟩:=AB fq20
     go_wp2_with fail
     rw [DH fq20 _ rfl]
     generalize hT:setRow w20 q _=w21
     obtain ⟨hx21,fq21⟩:=AK (b0 _) fq20 hT
     have HX21:=AA (xX HX20.out hx21 (.inr ⟨Nat.le_of_lt hqw,by omega⟩))
     have hW21:=AA (hW20.out.of hx21 fq20 (by decide) (by decide) (HW.out.layX HX21.out))
     have f21:=kx hx21 f20 (by omega)
     clear hT hx21 z1 z2 z3
     simp only [lA1,lZ1,lS1] at fq21
     have d1:=D3 g l3
     refine (d1 _ hW21.out).mono ?_
     rintro e w22 hp
     cases e9:AM l3 with
     | none=>
      rw [e9] at hp
      have hE:=HE.out
      simp only [e9] at hE
      obtain ⟨rfl,hx⟩:=hp
      go_wp2
      subst hE
      exact ⟨rfl,rfl,xX HX21.out hx (.inl rfl)⟩
     | some xl=>
      obtain ⟨b,l4⟩:=xl
      rw [e9] at hp
      have hE:=HE.out
      simp only [e9] at hE
      replace HE:=AA hE
      clear hE e9
      obtain ⟨rfl,hx,hw⟩:=hp
      have HX22:=AA (xX HX21.out hx (.inl rfl))
      have f22:=kx hx f21 (by omega)
      have fq22:=kx hx fq21 (by omega)
      have hW22:=AA hw
      clear hw hx
      obtain ⟨z1,z2,z3⟩:=AB fq22
      go_wp2_with fail
      rw [DH fq22 _ rfl]
      generalize hT:setRow w22 q _=w23
      obtain ⟨hx23,fq23⟩:=AK (b0 _) fq22 hT
      have HX23:=AA (xX HX22.out hx23 (.inr ⟨Nat.le_of_lt hqw,by omega⟩))
      have hW23:=AA (hW22.out.of hx23 fq22 (by decide) (by decide) (HW.out.layX HX23.out))
      have f23:=kx hx23 f22 (by omega)
      clear hT hx23 z1 z2 z3
      simp only [lA1,lZ1,lS1] at fq23
      have d2:=D3 g l4
      refine (d2 _ hW23.out).mono ?_
      rintro e w24 hp
      cases e9:AM l4 with
      | none=>
       rw [e9] at hp
       have hE:=HE.out
       simp only [e9] at hE
       obtain ⟨rfl,hx⟩:=hp
       go_wp2
       subst hE
       exact ⟨rfl,rfl,xX HX23.out hx (.inl rfl)⟩
      | some xl=>
       obtain ⟨n,l5⟩:=xl
       rw [e9] at hp
       have hE:=HE.out
       simp only [e9] at hE
       replace HE:=AA hE
       clear hE e9
       obtain ⟨rfl,hx,hw⟩:=hp
       have HX24:=AA (xX HX23.out hx (.inl rfl))
       have f24:=kx hx f23 (by omega)
       have fq24:=kx hx fq23 (by omega)
       have hW24:=AA hw
       clear hw hx
       obtain ⟨z1,z2,z3⟩:=AB fq24
       have hcs:∀w',BI w.heap.size w' (.agg (AI 1 ⟨5,0,⟨#[]⟩,0,0,0,none,0,0,8,s,a,b,(K+1),n,⟨#[]⟩,0,0⟩ 0 none 0 0)) { ok:=5,qk:=8,qn:=s,qa:=a,qb:=b,qw:=K+1,qN:=n }:=fun w'=>⟨none,0,none,0,rfl,RS.nil _,RS.nil _⟩
       have hs1:(AI 1 ⟨5,0,⟨#[]⟩,0,0,0,none,0,0,8,s,a,b,(K+1),n,⟨#[]⟩,0,0⟩ 0 none 0 0).size=19:=rfl
       have h1:(AI 1 ⟨5,0,⟨#[]⟩,0,0,0,none,0,0,8,s,a,b,(K+1),n,⟨#[]⟩,0,0⟩ 0 none 0 0).all (·.oneCell')=true:=BB _ _ _ _ _ _
       have c9:=JW ⟨5,0,⟨#[]⟩,0,0,0,none,0,0,8,s,a,b,(K+1),n,⟨#[]⟩,0,0⟩
       simp only [OpV.cs] at c9
       generalize AI 1 ⟨5,0,⟨#[]⟩,0,0,0,none,0,0,8,s,a,b,(K+1),n,⟨#[]⟩,0,0⟩ 0 none 0 0=Y at *
       go_wp2_with fail
       rw [DH fq24 _ rfl]
       generalize hT:setRow w24 q _=w25
       obtain ⟨hx25,fq25⟩:=AK (b0 _) fq24 hT
       have HX25:=AA (xX HX24.out hx25 (.inr ⟨Nat.le_of_lt hqw,by omega⟩))
       have hW25:=AA (hW24.out.of hx25 fq24 (by decide) (by decide) (HW.out.layX HX25.out))
       have f25:=kx hx25 f24 (by omega)
       clear hT hx25 z1 z2 z3
       simp only [lA1,lZ1,lS1] at fq25
       refine (c9 _).mono ?_
       rintro e w9 ⟨rfl,hb9⟩
       have f9:=kp hb9 f25
       go_wp2_with (refine AG rfl _ _ _ rfl w.heap.size 48 _ Y rfl rfl f9 (by rw [AE,hs1]) (by rw [hs1];rfl) h1 ?_;simp only [Act.put])
       exact EZ Tryz.results64 rfl f9 hs1 (xB HX25.out hb9) (hW25.out.below hb9) HW.out (Nat.le_refl _) (hcs _) HE.out
   ·have eK:decide ((1:Int)<=K+1)=false:=decide_eq_false (by omega)
    have hE:=HE.out
    rw [if_neg hk0] at hE
    go_wp2_with fail
    rw [DH fq6 _ rfl]
    generalize hT:setRow w7 q _=w8
    obtain ⟨hx8,fq8⟩:=AK (b0 _) fq6 hT
    have HX8:=AA (xX HX6.out hx8 (.inr ⟨Nat.le_of_lt hqw,by omega⟩))
    have hW8:=AA (hW6.out.of hx8 fq6 (by decide) (by decide) (HW.out.layX HX8.out))
    have f8:=kx hx8 f6 (by omega)
    clear hT hx8 z1 z2 z3
    simp only [lA1,lZ1,lS1] at fq8
    refine (y2 _).mono ?_
    rintro e w9 ⟨rfl,rfl⟩
    go_wp2
    subst hE
    exact ⟨rfl,rfl,HX8.out⟩
end Go.Proofs.YtlnonecibpjcoaaGreatDoor
