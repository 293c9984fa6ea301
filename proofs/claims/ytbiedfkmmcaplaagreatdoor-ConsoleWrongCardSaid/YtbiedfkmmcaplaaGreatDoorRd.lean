/- The console at this program: the commands that words begin. The console at this program: spans of times, power, and what has one word. The console at this program: what has one word, and crashes. The console at this program: points that are appended. The console at this program: whether a line has b -/
import Derived.Test.YtbiedfkmmcaplaaGreatDoorRb
set_option linter.all false
namespace Go.Proofs.YtbiedfkmmcaplaaGreatDoor
open Go.RowKit
attribute [local go_sem] Oper.semAt_some

def pCreate (ws : List ByteArray) : Option (Cm × List ByteArray) :=
  match pName ws with | none => none | some (s, l1) => match pNum l1 with | none => none | some (x, l2) => match pNum l2 with | none => none | some (y, l3) => some ({ ok := 1, mkd := 1, mn := s, me := x, ms := y }, l3)
set_option maxRecDepth 100000 in
set_option maxHeartbeats 4000000 in
theorem r_create (g : Nat) (ws : List ByteArray) (w : World) (h : Wd g ws w) : Calls Tryz.prog 36 #[.pointer (some ⟨g, 0, none⟩)] w (RPm g (pCreate ws) w) := by
  have lg := h.lt
  have HW := hide h
  have hW1 := fun Z => hide (h.below (bA (b0 w) (.cells Z 38)))
  have f1 := fun Z => na w Z 38
  have HX1 := fun Z => hide (xA (x0 g w (Nat.le_of_lt lg)) (.cells Z 38))
  have HE := hide (show pCreate ws = (match pName ws with | none => none | some (s, l1) => match pNum l1 with | none => none | some (x, l2) => match pNum l2 with | none => none | some (y, l3) => some ({ ok := 1, mkd := 1, mn := s, me := x, ms := y }, l3)) from rfl)
  obtain ⟨R, hR⟩ : ∃ R, R = pCreate ws := ⟨_, rfl⟩
  rw [← hR] at HE ⊢
  clear hR h
  go_enter Tryz.func36, Tryz.ntmps36
  have c0 := r_name g ws
  go_wp2_with fail
  refine (c0 _ (hW1 _).out).mono ?_
  rintro e w2 hp
  cases e0 : pName ws with
  | none =>
    rw [e0] at hp
    have hE := HE.out
    simp only [e0] at hE
    obtain ⟨rfl, hx⟩ := hp
    go_wp2
    subst hE
    exact ⟨rfl, rfl, xX (HX1 _).out hx (.inl rfl)⟩
  | some xl =>
    obtain ⟨s, l1⟩ := xl
    rw [e0] at hp
    have hE := HE.out
    simp only [e0] at hE
    replace HE := hide hE
    clear hE e0
    obtain ⟨rfl, hx, hw⟩ := hp
    have HX2 := hide (xX (HX1 _).out hx (.inl rfl))
    have f2 := kx hx (f1 _) (by omega)
    have hW2 := hide hw
    clear hw hx
    have c1 := r_number g l1
    go_wp2_with fail
    refine (c1 _ hW2.out).mono ?_
    rintro e w3 hp
    cases e1 : pNum l1 with
    | none =>
      rw [e1] at hp
      have hE := HE.out
      simp only [e1] at hE
      obtain ⟨rfl, hx⟩ := hp
      go_wp2
      subst hE
      exact ⟨rfl, rfl, xX HX2.out hx (.inl rfl)⟩
    | some xl =>
      obtain ⟨x, l2⟩ := xl
      rw [e1] at hp
      have hE := HE.out
      simp only [e1] at hE
      replace HE := hide hE
      clear hE e1
      obtain ⟨rfl, hx, hw⟩ := hp
      have HX3 := hide (xX HX2.out hx (.inl rfl))
      have f3 := kx hx f2 (by omega)
      have hW3 := hide hw
      clear hw hx
      have c2 := r_number g l2
      go_wp2_with fail
      refine (c2 _ hW3.out).mono ?_
      rintro e w4 hp
      cases e2 : pNum l2 with
      | none =>
        rw [e2] at hp
        have hE := HE.out
        simp only [e2] at hE
        obtain ⟨rfl, hx⟩ := hp
        go_wp2
        subst hE
        exact ⟨rfl, rfl, xX HX3.out hx (.inl rfl)⟩
      | some xl =>
        obtain ⟨y, l3⟩ := xl
        rw [e2] at hp
        have hE := HE.out
        simp only [e2] at hE
        replace HE := hide hE
        clear hE e2
        obtain ⟨rfl, hx, hw⟩ := hp
        have HX4 := hide (xX HX3.out hx (.inl rfl))
        have f4 := kx hx f3 (by omega)
        have hW4 := hide hw
        clear hw hx
        have hcs : ∀ w', CmdIs w.heap.size w' (.agg (cmdCs 1 ⟨1, 1, s, x, 0, y, none, 0, 0, 0, ⟨#[]⟩, 0, 0, 0, 0, ⟨#[]⟩, 0, 0⟩ 0 none 0 0)) { ok := 1, mkd := 1, mn := s, me := x, ms := y } := fun w' => ⟨none, 0, none, 0, rfl, RS.nil _, RS.nil _⟩
        have hs1 : (cmdCs 1 ⟨1, 1, s, x, 0, y, none, 0, 0, 0, ⟨#[]⟩, 0, 0, 0, 0, ⟨#[]⟩, 0, 0⟩ 0 none 0 0).size = 19 := rfl
        have h1 : (cmdCs 1 ⟨1, 1, s, x, 0, y, none, 0, 0, 0, ⟨#[]⟩, 0, 0, 0, 0, ⟨#[]⟩, 0, 0⟩ 0 none 0 0).all (·.oneCell') = true := cmd_one _ _ _ _ _ _
        have c9 := con_change 1 x 0 y s none 0 0
        generalize cmdCs 1 ⟨1, 1, s, x, 0, y, none, 0, 0, 0, ⟨#[]⟩, 0, 0, 0, 0, ⟨#[]⟩, 0, 0⟩ 0 none 0 0 = Y at *
        go_wp2_with fail
        refine (c9 _).mono ?_
        rintro e w9 ⟨rfl, hb9⟩
        have f9 := kp hb9 f4
        go_wp2_with (refine wpList_storeW rfl _ _ _ rfl w.heap.size 38 _ Y rfl rfl f9 (by rw [size48, hs1]) (by rw [hs1]; rfl) h1 ?_; simp only [Act.put])
        exact cmd_ret Tryz.results36 rfl f9 hs1 (xB HX4.out hb9) (hW4.out.below hb9) HW.out (Nat.le_refl _) (hcs _) HE.out

def pRetain (ws : List ByteArray) : Option (Cm × List ByteArray) :=
  match pName ws with | none => none | some (s, l1) => match pNum l1 with | none => none | some (x, l2) => some ({ ok := 1, mkd := 4, mn := s, mf := x }, l2)
set_option maxRecDepth 100000 in
set_option maxHeartbeats 4000000 in
theorem r_retain (g : Nat) (ws : List ByteArray) (w : World) (h : Wd g ws w) : Calls Tryz.prog 39 #[.pointer (some ⟨g, 0, none⟩)] w (RPm g (pRetain ws) w) := by
  have lg := h.lt
  have HW := hide h
  have hW1 := fun Z => hide (h.below (bA (b0 w) (.cells Z 38)))
  have f1 := fun Z => na w Z 38
  have HX1 := fun Z => hide (xA (x0 g w (Nat.le_of_lt lg)) (.cells Z 38))
  have HE := hide (show pRetain ws = (match pName ws with | none => none | some (s, l1) => match pNum l1 with | none => none | some (x, l2) => some ({ ok := 1, mkd := 4, mn := s, mf := x }, l2)) from rfl)
  obtain ⟨R, hR⟩ : ∃ R, R = pRetain ws := ⟨_, rfl⟩
  rw [← hR] at HE ⊢
  clear hR h
  go_enter Tryz.func39, Tryz.ntmps39
  have c0 := r_name g ws
  go_wp2_with fail
  refine (c0 _ (hW1 _).out).mono ?_
  rintro e w2 hp
  cases e0 : pName ws with
  | none =>
    rw [e0] at hp
    have hE := HE.out
    simp only [e0] at hE
    obtain ⟨rfl, hx⟩ := hp
    go_wp2
    subst hE
    exact ⟨rfl, rfl, xX (HX1 _).out hx (.inl rfl)⟩
  | some xl =>
    obtain ⟨s, l1⟩ := xl
    rw [e0] at hp
    have hE := HE.out
    simp only [e0] at hE
    replace HE := hide hE
    clear hE e0
    obtain ⟨rfl, hx, hw⟩ := hp
    have HX2 := hide (xX (HX1 _).out hx (.inl rfl))
    have f2 := kx hx (f1 _) (by omega)
    have hW2 := hide hw
    clear hw hx
    have c1 := r_number g l1
    go_wp2_with fail
    refine (c1 _ hW2.out).mono ?_
    rintro e w3 hp
    cases e1 : pNum l1 with
    | none =>
      rw [e1] at hp
      have hE := HE.out
      simp only [e1] at hE
      obtain ⟨rfl, hx⟩ := hp
      go_wp2
      subst hE
      exact ⟨rfl, rfl, xX HX2.out hx (.inl rfl)⟩
    | some xl =>
      obtain ⟨x, l2⟩ := xl
      rw [e1] at hp
      have hE := HE.out
      simp only [e1] at hE
      replace HE := hide hE
      clear hE e1
      obtain ⟨rfl, hx, hw⟩ := hp
      have HX3 := hide (xX HX2.out hx (.inl rfl))
      have f3 := kx hx f2 (by omega)
      have hW3 := hide hw
      clear hw hx
      have hcs : ∀ w', CmdIs w.heap.size w' (.agg (cmdCs 1 ⟨1, 4, s, 0, x, 0, none, 0, 0, 0, ⟨#[]⟩, 0, 0, 0, 0, ⟨#[]⟩, 0, 0⟩ 0 none 0 0)) { ok := 1, mkd := 4, mn := s, mf := x } := fun w' => ⟨none, 0, none, 0, rfl, RS.nil _, RS.nil _⟩
      have hs1 : (cmdCs 1 ⟨1, 4, s, 0, x, 0, none, 0, 0, 0, ⟨#[]⟩, 0, 0, 0, 0, ⟨#[]⟩, 0, 0⟩ 0 none 0 0).size = 19 := rfl
      have h1 : (cmdCs 1 ⟨1, 4, s, 0, x, 0, none, 0, 0, 0, ⟨#[]⟩, 0, 0, 0, 0, ⟨#[]⟩, 0, 0⟩ 0 none 0 0).all (·.oneCell') = true := cmd_one _ _ _ _ _ _
      have c9 := con_change 4 0 x 0 s none 0 0
      generalize cmdCs 1 ⟨1, 4, s, 0, x, 0, none, 0, 0, 0, ⟨#[]⟩, 0, 0, 0, 0, ⟨#[]⟩, 0, 0⟩ 0 none 0 0 = Y at *
      go_wp2_with fail
      refine (c9 _).mono ?_
      rintro e w9 ⟨rfl, hb9⟩
      have f9 := kp hb9 f3
      go_wp2_with (refine wpList_storeW rfl _ _ _ rfl w.heap.size 38 _ Y rfl rfl f9 (by rw [size48, hs1]) (by rw [hs1]; rfl) h1 ?_; simp only [Act.put])
      exact cmd_ret Tryz.results39 rfl f9 hs1 (xB HX3.out hb9) (hW3.out.below hb9) HW.out (Nat.le_refl _) (hcs _) HE.out

def pAt (ws : List ByteArray) : Option (Cm × List ByteArray) :=
  match pName ws with | none => none | some (s, l1) => match pNum l1 with | none => none | some (x, l2) => some ({ ok := 5, qk := 6, qn := s, qa := x }, l2)
set_option maxRecDepth 100000 in
set_option maxHeartbeats 4000000 in
theorem r_at (g : Nat) (ws : List ByteArray) (w : World) (h : Wd g ws w) : Calls Tryz.prog 41 #[.pointer (some ⟨g, 0, none⟩)] w (RPm g (pAt ws) w) := by
  have lg := h.lt
  have HW := hide h
  have hW1 := fun Z => hide (h.below (bA (b0 w) (.cells Z 38)))
  have f1 := fun Z => na w Z 38
  have HX1 := fun Z => hide (xA (x0 g w (Nat.le_of_lt lg)) (.cells Z 38))
  have HE := hide (show pAt ws = (match pName ws with | none => none | some (s, l1) => match pNum l1 with | none => none | some (x, l2) => some ({ ok := 5, qk := 6, qn := s, qa := x }, l2)) from rfl)
  obtain ⟨R, hR⟩ : ∃ R, R = pAt ws := ⟨_, rfl⟩
  rw [← hR] at HE ⊢
  clear hR h
  go_enter Tryz.func41, Tryz.ntmps41
  have c0 := r_name g ws
  go_wp2_with fail
  refine (c0 _ (hW1 _).out).mono ?_
  rintro e w2 hp
  cases e0 : pName ws with
  | none =>
    rw [e0] at hp
    have hE := HE.out
    simp only [e0] at hE
    obtain ⟨rfl, hx⟩ := hp
    go_wp2
    subst hE
    exact ⟨rfl, rfl, xX (HX1 _).out hx (.inl rfl)⟩
  | some xl =>
    obtain ⟨s, l1⟩ := xl
    rw [e0] at hp
    have hE := HE.out
    simp only [e0] at hE
    replace HE := hide hE
    clear hE e0
    obtain ⟨rfl, hx, hw⟩ := hp
    have HX2 := hide (xX (HX1 _).out hx (.inl rfl))
    have f2 := kx hx (f1 _) (by omega)
    have hW2 := hide hw
    clear hw hx
    have c1 := r_number g l1
    go_wp2_with fail
    refine (c1 _ hW2.out).mono ?_
    rintro e w3 hp
    cases e1 : pNum l1 with
    | none =>
      rw [e1] at hp
      have hE := HE.out
      simp only [e1] at hE
      obtain ⟨rfl, hx⟩ := hp
      go_wp2
      subst hE
      exact ⟨rfl, rfl, xX HX2.out hx (.inl rfl)⟩
    | some xl =>
      obtain ⟨x, l2⟩ := xl
      rw [e1] at hp
      have hE := HE.out
      simp only [e1] at hE
      replace HE := hide hE
      clear hE e1
      obtain ⟨rfl, hx, hw⟩ := hp
      have HX3 := hide (xX HX2.out hx (.inl rfl))
      have f3 := kx hx f2 (by omega)
      have hW3 := hide hw
      clear hw hx
      have hcs : ∀ w', CmdIs w.heap.size w' (.agg (cmdCs 1 ⟨5, 0, ⟨#[]⟩, 0, 0, 0, none, 0, 0, 6, s, x, 0, 0, 0, ⟨#[]⟩, 0, 0⟩ 0 none 0 0)) { ok := 5, qk := 6, qn := s, qa := x } := fun w' => ⟨none, 0, none, 0, rfl, RS.nil _, RS.nil _⟩
      have hs1 : (cmdCs 1 ⟨5, 0, ⟨#[]⟩, 0, 0, 0, none, 0, 0, 6, s, x, 0, 0, 0, ⟨#[]⟩, 0, 0⟩ 0 none 0 0).size = 19 := rfl
      have h1 : (cmdCs 1 ⟨5, 0, ⟨#[]⟩, 0, 0, 0, none, 0, 0, 6, s, x, 0, 0, 0, ⟨#[]⟩, 0, 0⟩ 0 none 0 0).all (·.oneCell') = true := cmd_one _ _ _ _ _ _
      have c9 := con_do ⟨5, 0, ⟨#[]⟩, 0, 0, 0, none, 0, 0, 6, s, x, 0, 0, 0, ⟨#[]⟩, 0, 0⟩
      simp only [OpV.cs] at c9
      generalize cmdCs 1 ⟨5, 0, ⟨#[]⟩, 0, 0, 0, none, 0, 0, 6, s, x, 0, 0, 0, ⟨#[]⟩, 0, 0⟩ 0 none 0 0 = Y at *
      go_wp2_with fail
      refine (c9 _).mono ?_
      rintro e w9 ⟨rfl, hb9⟩
      have f9 := kp hb9 f3
      go_wp2_with (refine wpList_storeW rfl _ _ _ rfl w.heap.size 38 _ Y rfl rfl f9 (by rw [size48, hs1]) (by rw [hs1]; rfl) h1 ?_; simp only [Act.put])
      exact cmd_ret Tryz.results41 rfl f9 hs1 (xB HX3.out hb9) (hW3.out.below hb9) HW.out (Nat.le_refl _) (hcs _) HE.out

def pReading (ws : List ByteArray) : Option (Cm × List ByteArray) :=
  match pName ws with | none => none | some (s, l1) => match pNum l1 with | none => none | some (x, l2) => match pBits l2 with | none => none | some (y, l3) => some ({ ok := 6, nm := s, t := x, bits := y }, l3)
set_option maxRecDepth 100000 in
set_option maxHeartbeats 4000000 in
theorem r_reading (g : Nat) (ws : List ByteArray) (w : World) (h : Wd g ws w) : Calls Tryz.prog 40 #[.pointer (some ⟨g, 0, none⟩)] w (RPm g (pReading ws) w) := by
  have lg := h.lt
  have HW := hide h
  have hW1 := fun Z => hide (h.below (bA (b0 w) (.cells Z 38)))
  have f1 := fun Z => na w Z 38
  have HX1 := fun Z => hide (xA (x0 g w (Nat.le_of_lt lg)) (.cells Z 38))
  have HE := hide (show pReading ws = (match pName ws with | none => none | some (s, l1) => match pNum l1 with | none => none | some (x, l2) => match pBits l2 with | none => none | some (y, l3) => some ({ ok := 6, nm := s, t := x, bits := y }, l3)) from rfl)
  obtain ⟨R, hR⟩ : ∃ R, R = pReading ws := ⟨_, rfl⟩
  rw [← hR] at HE ⊢
  clear hR h
  go_enter Tryz.func40, Tryz.ntmps40
  have c0 := r_name g ws
  go_wp2_with fail
  refine (c0 _ (hW1 _).out).mono ?_
  rintro e w2 hp
  cases e0 : pName ws with
  | none =>
    rw [e0] at hp
    have hE := HE.out
    simp only [e0] at hE
    obtain ⟨rfl, hx⟩ := hp
    go_wp2
    subst hE
    exact ⟨rfl, rfl, xX (HX1 _).out hx (.inl rfl)⟩
  | some xl =>
    obtain ⟨s, l1⟩ := xl
    rw [e0] at hp
    have hE := HE.out
    simp only [e0] at hE
    replace HE := hide hE
    clear hE e0
    obtain ⟨rfl, hx, hw⟩ := hp
    have HX2 := hide (xX (HX1 _).out hx (.inl rfl))
    have f2 := kx hx (f1 _) (by omega)
    have hW2 := hide hw
    clear hw hx
    have c1 := r_number g l1
    go_wp2_with fail
    refine (c1 _ hW2.out).mono ?_
    rintro e w3 hp
    cases e1 : pNum l1 with
    | none =>
      rw [e1] at hp
      have hE := HE.out
      simp only [e1] at hE
      obtain ⟨rfl, hx⟩ := hp
      go_wp2
      subst hE
      exact ⟨rfl, rfl, xX HX2.out hx (.inl rfl)⟩
    | some xl =>
      obtain ⟨x, l2⟩ := xl
      rw [e1] at hp
      have hE := HE.out
      simp only [e1] at hE
      replace HE := hide hE
      clear hE e1
      obtain ⟨rfl, hx, hw⟩ := hp
      have HX3 := hide (xX HX2.out hx (.inl rfl))
      have f3 := kx hx f2 (by omega)
      have hW3 := hide hw
      clear hw hx
      have c2 := r_bits g l2
      go_wp2_with fail
      refine (c2 _ hW3.out).mono ?_
      rintro e w4 hp
      cases e2 : pBits l2 with
      | none =>
        rw [e2] at hp
        have hE := HE.out
        simp only [e2] at hE
        obtain ⟨rfl, hx⟩ := hp
        go_wp2
        subst hE
        exact ⟨rfl, rfl, xX HX3.out hx (.inl rfl)⟩
      | some xl =>
        obtain ⟨y, l3⟩ := xl
        rw [e2] at hp
        have hE := HE.out
        simp only [e2] at hE
        replace HE := hide hE
        clear hE e2
        obtain ⟨rfl, hx, hw⟩ := hp
        have HX4 := hide (xX HX3.out hx (.inl rfl))
        have f4 := kx hx f3 (by omega)
        have hW4 := hide hw
        clear hw hx
        have hcs : ∀ w', CmdIs w.heap.size w' (.agg (cmdCs 1 ⟨6, 0, ⟨#[]⟩, 0, 0, 0, none, 0, 0, 0, ⟨#[]⟩, 0, 0, 0, 0, s, x, y⟩ 0 none 0 0)) { ok := 6, nm := s, t := x, bits := y } := fun w' => ⟨none, 0, none, 0, rfl, RS.nil _, RS.nil _⟩
        have hs1 : (cmdCs 1 ⟨6, 0, ⟨#[]⟩, 0, 0, 0, none, 0, 0, 0, ⟨#[]⟩, 0, 0, 0, 0, s, x, y⟩ 0 none 0 0).size = 19 := rfl
        have h1 : (cmdCs 1 ⟨6, 0, ⟨#[]⟩, 0, 0, 0, none, 0, 0, 0, ⟨#[]⟩, 0, 0, 0, 0, s, x, y⟩ 0 none 0 0).all (·.oneCell') = true := cmd_one _ _ _ _ _ _
        have c9 := con_do ⟨6, 0, ⟨#[]⟩, 0, 0, 0, none, 0, 0, 0, ⟨#[]⟩, 0, 0, 0, 0, s, x, y⟩
        simp only [OpV.cs] at c9
        generalize cmdCs 1 ⟨6, 0, ⟨#[]⟩, 0, 0, 0, none, 0, 0, 0, ⟨#[]⟩, 0, 0, 0, 0, s, x, y⟩ 0 none 0 0 = Y at *
        go_wp2_with fail
        refine (c9 _).mono ?_
        rintro e w9 ⟨rfl, hb9⟩
        have f9 := kp hb9 f4
        go_wp2_with (refine wpList_storeW rfl _ _ _ rfl w.heap.size 38 _ Y rfl rfl f9 (by rw [size48, hs1]) (by rw [hs1]; rfl) h1 ?_; simp only [Act.put])
        exact cmd_ret Tryz.results40 rfl f9 hs1 (xB HX4.out hb9) (hW4.out.below hb9) HW.out (Nat.le_refl _) (hcs _) HE.out

end Go.Proofs.YtbiedfkmmcaplaaGreatDoor

namespace Go.Proofs.YtbiedfkmmcaplaaGreatDoor
open Go.RowKit
attribute [local go_sem] Oper.semAt_some

def pSpan (k : Int) (ws : List ByteArray) : Option (Cm × List ByteArray) :=
  match pName ws with
  | none => none
  | some (s, l1) => match pNum l1 with
    | none => none
    | some (x, l2) => match pNum l2 with
      | none => none
      | some (y, l3) => some ({ ok := 5, qk := k, qn := s, qa := x, qb := y }, l3)

set_option maxRecDepth 100000 in
set_option maxHeartbeats 4000000 in
theorem r_span (g : Nat) (k : Int) (ws : List ByteArray) (w : World) (h : Wd g ws w) : Calls Tryz.prog 49 #[.pointer (some ⟨g, 0, none⟩), .int .i64 k] w (RPm g (pSpan k ws) w) := by
  have lg := h.lt
  have HW := hide h
  have hW1 := fun Z => hide (h.below (bA (b0 w) (.cells Z 38)))
  have f1 := fun Z => na w Z 38
  have HX1 := fun Z => hide (xA (x0 g w (Nat.le_of_lt lg)) (.cells Z 38))
  obtain ⟨R, hR⟩ : ∃ R, R = pSpan k ws := ⟨_, rfl⟩
  have HE := hide hR
  rw [← hR]
  clear hR h
  unfold pSpan at HE
  have c0 := r_name g ws
  go_enter Tryz.func49, Tryz.ntmps49
  go_wp2_with fail
  refine (c0 _ (hW1 _).out).mono ?_
  rintro e w2 hp
  cases e0 : pName ws with
  | none =>
    rw [e0] at hp
    have hE := HE.out
    simp only [e0] at hE
    obtain ⟨rfl, hx⟩ := hp
    go_wp2
    subst hE
    exact ⟨rfl, rfl, xX (HX1 _).out hx (.inl rfl)⟩
  | some xl =>
    obtain ⟨s, l1⟩ := xl
    rw [e0] at hp
    have hE := HE.out
    simp only [e0] at hE
    replace HE := hide hE
    clear hE e0
    obtain ⟨rfl, hx, hw⟩ := hp
    have HX2 := hide (xX (HX1 _).out hx (.inl rfl))
    have f2 := kx hx (f1 _) (by omega)
    have hW2 := hide hw
    have hsz2 := HX2.out.size
    clear hw hx
    have c1 := r_number g l1
    go_wp2_with (refine wpList_storeW rfl _ _ _ rfl w2.heap.size 32 _ #[.int .i64 k, .string s, .int .i64 0, .int .i64 0, .int .i64 0, .int .i64 0] rfl rfl (na _ _ _) size26 rfl (by simp [Value.oneCell']) ?_; simp only [Act.put])
    obtain ⟨q, hq⟩ : ∃ q, q = w2.heap.size := ⟨_, rfl⟩
    generalize hT : setRow (w2.alloc _) w2.heap.size _ = w3
    obtain ⟨hx3, fq3⟩ := fin_x (b0 _) (na w2 _ 32) hT
    have HX3 := hide (xX (xA HX2.out (.cells #[.int .i64 0, .string ⟨#[]⟩, .int .i64 0, .int .i64 0, .int .i64 0, .int .i64 0] 32)) hx3 (.inr ⟨hsz2, by omega⟩))
    have hW3 := hide ((hW2.out.below (bA (b0 _) (.cells #[.int .i64 0, .string ⟨#[]⟩, .int .i64 0, .int .i64 0, .int .i64 0, .int .i64 0] 32))).of hx3 (na w2 _ 32) (by decide) (by decide) (HW.out.layX HX3.out))
    have l2 : w.heap.size < w2.heap.size := (rcell f2).2.2
    have f3 := kx hx3 (kp (bA (b0 _) (.cells #[.int .i64 0, .string ⟨#[]⟩, .int .i64 0, .int .i64 0, .int .i64 0, .int .i64 0] 32)) f2) (by omega)
    clear hT hx3
    rw [← hq] at fq3 ⊢
    have hqw : w.heap.size < q := by omega
    clear hq l2 hsz2
    refine (c1 _ hW3.out).mono ?_
    rintro e w4 hp
    cases e1 : pNum l1 with
    | none =>
      rw [e1] at hp
      have hE := HE.out
      simp only [e1] at hE
      obtain ⟨rfl, hx⟩ := hp
      go_wp2
      subst hE
      exact ⟨rfl, rfl, xX HX3.out hx (.inl rfl)⟩
    | some xl =>
      obtain ⟨x, l2⟩ := xl
      rw [e1] at hp
      have hE := HE.out
      simp only [e1] at hE
      replace HE := hide hE
      clear hE e1
      obtain ⟨rfl, hx, hw⟩ := hp
      have HX4 := hide (xX HX3.out hx (.inl rfl))
      have f4 := kx hx f3 (by omega)
      have fq4 := kx hx fq3 (by omega)
      have hW4 := hide hw
      clear hw hx
      have c2 := r_number g l2
      obtain ⟨z1, z2, z3⟩ := rcell fq4
      go_wp2_with fail
      rw [setRow_of_setCell fq4 _ rfl]
      generalize hT : setRow w4 q _ = w5
      obtain ⟨hx5, fq5⟩ := fin_x (b0 _) fq4 hT
      have HX5 := hide (xX HX4.out hx5 (.inr ⟨Nat.le_of_lt hqw, by omega⟩))
      have hW5 := hide (hW4.out.of hx5 fq4 (by decide) (by decide) (HW.out.layX HX5.out))
      have f5 := kx hx5 f4 (by omega)
      clear hT hx5 z1 z2 z3
      simp only [List.setIfInBounds_toArray, List.set_cons_zero, List.set_cons_succ] at fq5
      refine (c2 _ hW5.out).mono ?_
      rintro e w6 hp
      cases e2 : pNum l2 with
      | none =>
        rw [e2] at hp
        have hE := HE.out
        simp only [e2] at hE
        obtain ⟨rfl, hx⟩ := hp
        go_wp2
        subst hE
        exact ⟨rfl, rfl, xX HX5.out hx (.inl rfl)⟩
      | some xl =>
        obtain ⟨y, l3⟩ := xl
        rw [e2] at hp
        have hE := HE.out
        simp only [e2] at hE
        replace HE := hide hE
        clear hE e2
        obtain ⟨rfl, hx, hw⟩ := hp
        have HX6 := hide (xX HX5.out hx (.inl rfl))
        have f6 := kx hx f5 (by omega)
        have fq6 := kx hx fq5 (by omega)
        have hW6 := hide hw
        clear hw hx
        obtain ⟨z1, z2, z3⟩ := rcell fq6
        go_wp2_with fail
        rw [setRow_of_setCell fq6 _ rfl]
        generalize hT : setRow w6 q _ = w7
        obtain ⟨hx7, fq7⟩ := fin_x (b0 _) fq6 hT
        have HX7 := hide (xX HX6.out hx7 (.inr ⟨Nat.le_of_lt hqw, by omega⟩))
        have hW7 := hide (hW6.out.of hx7 fq6 (by decide) (by decide) (HW.out.layX HX7.out))
        have f7 := kx hx7 f6 (by omega)
        clear hT hx7 z1 z2 z3
        have hcs : ∀ w', CmdIs w.heap.size w' (.agg (cmdCs 1 ⟨5, 0, ⟨#[]⟩, 0, 0, 0, none, 0, 0, k, s, x, y, 0, 0, ⟨#[]⟩, 0, 0⟩ 0 none 0 0)) { ok := 5, qk := k, qn := s, qa := x, qb := y } := fun w' => ⟨none, 0, none, 0, rfl, RS.nil _, RS.nil _⟩
        have hs1 : (cmdCs 1 ⟨5, 0, ⟨#[]⟩, 0, 0, 0, none, 0, 0, k, s, x, y, 0, 0, ⟨#[]⟩, 0, 0⟩ 0 none 0 0).size = 19 := rfl
        have h1 : (cmdCs 1 ⟨5, 0, ⟨#[]⟩, 0, 0, 0, none, 0, 0, k, s, x, y, 0, 0, ⟨#[]⟩, 0, 0⟩ 0 none 0 0).all (·.oneCell') = true := cmd_one _ _ _ _ _ _
        have c9 := con_do ⟨5, 0, ⟨#[]⟩, 0, 0, 0, none, 0, 0, k, s, x, y, 0, 0, ⟨#[]⟩, 0, 0⟩
        simp only [OpV.cs] at c9
        generalize cmdCs 1 ⟨5, 0, ⟨#[]⟩, 0, 0, 0, none, 0, 0, k, s, x, y, 0, 0, ⟨#[]⟩, 0, 0⟩ 0 none 0 0 = Y at *
        refine (c9 _).mono ?_
        rintro e w9 ⟨rfl, hb9⟩
        have f9 := kp hb9 f7
        go_wp2_with (refine wpList_storeW rfl _ _ _ rfl w.heap.size 38 _ Y rfl rfl f9 (by rw [size48, hs1]) (by rw [hs1]; rfl) h1 ?_; simp only [Act.put])
        exact cmd_ret Tryz.results49 rfl f9 hs1 (xB HX7.out hb9) (hW7.out.below hb9) HW.out (Nat.le_refl _) (hcs _) HE.out

def pPower (ws : List ByteArray) : Option (Cm × List ByteArray) :=
  match pNum ws with | none => none | some (x, l1) => some ({ kind := 2, n := x }, l1)
theorem build48p (x : Int) (w : World) : (Instr.build 38 #[(0, .int .i64 2), (2, .int .i64 x)]).run Tryz.prog w = .ok (.agg (cmdCs 2 ⟨0, 0, ⟨#[]⟩, 0, 0, 0, none, 0, 0, 0, ⟨#[]⟩, 0, 0, 0, 0, ⟨#[]⟩, 0, 0⟩ x none 0 0)) w := by kernel_rfl
set_option maxRecDepth 100000 in
set_option maxHeartbeats 4000000 in
theorem r_power (g : Nat) (ws : List ByteArray) (w : World) (h : Wd g ws w) : Calls Tryz.prog 43 #[.pointer (some ⟨g, 0, none⟩)] w (RPm g (pPower ws) w) := by
  have lg := h.lt
  have HW := hide h
  have hW1 := fun Z => hide (h.below (bA (b0 w) (.cells Z 38)))
  have f1 := fun Z => na w Z 38
  have HX1 := fun Z => hide (xA (x0 g w (Nat.le_of_lt lg)) (.cells Z 38))
  have HE := hide (show pPower ws = (match pNum ws with | none => none | some (x, l1) => some ({ kind := 2, n := x }, l1)) from rfl)
  obtain ⟨R, hR⟩ : ∃ R, R = pPower ws := ⟨_, rfl⟩
  rw [← hR] at HE ⊢
  clear hR h
  go_enter Tryz.func43, Tryz.ntmps43
  have c0 := r_number g ws
  go_wp2_with fail
  refine (c0 _ (hW1 _).out).mono ?_
  rintro e w2 hp
  cases e0 : pNum ws with
  | none =>
    rw [e0] at hp
    have hE := HE.out
    simp only [e0] at hE
    obtain ⟨rfl, hx⟩ := hp
    go_wp2
    subst hE
    exact ⟨rfl, rfl, xX (HX1 _).out hx (.inl rfl)⟩
  | some xl =>
    obtain ⟨x, l1⟩ := xl
    rw [e0] at hp
    have hE := HE.out
    simp only [e0] at hE
    replace HE := hide hE
    clear hE e0
    obtain ⟨rfl, hx, hw⟩ := hp
    have HX2 := hide (xX (HX1 _).out hx (.inl rfl))
    have f2 := kx hx (f1 _) (by omega)
    have hW2 := hide hw
    clear hw hx
    have hcs : ∀ w', CmdIs w.heap.size w' (.agg (cmdCs 2 ⟨0, 0, ⟨#[]⟩, 0, 0, 0, none, 0, 0, 0, ⟨#[]⟩, 0, 0, 0, 0, ⟨#[]⟩, 0, 0⟩ x none 0 0)) { kind := 2, n := x } := fun w' => ⟨none, 0, none, 0, rfl, RS.nil _, RS.nil _⟩
    have hs1 : (cmdCs 2 ⟨0, 0, ⟨#[]⟩, 0, 0, 0, none, 0, 0, 0, ⟨#[]⟩, 0, 0, 0, 0, ⟨#[]⟩, 0, 0⟩ x none 0 0).size = 19 := rfl
    have h1 : (cmdCs 2 ⟨0, 0, ⟨#[]⟩, 0, 0, 0, none, 0, 0, 0, ⟨#[]⟩, 0, 0, 0, 0, ⟨#[]⟩, 0, 0⟩ x none 0 0).all (·.oneCell') = true := cmd_one _ _ _ _ _ _
    have hb := build48p x
    generalize cmdCs 2 ⟨0, 0, ⟨#[]⟩, 0, 0, 0, none, 0, 0, 0, ⟨#[]⟩, 0, 0, 0, 0, ⟨#[]⟩, 0, 0⟩ x none 0 0 = Y at *
    go_wp2_with (first | (refine wpList_buildW rfl _ _ rfl (.agg Y) #[(0, .int .i64 2), (2, .int .i64 x)] (by simp [Act.eval]) (hb _) ?_; simp only [Act.put, List.setIfInBounds_toArray, List.set_cons_zero, List.set_cons_succ]) | (refine wpList_storeW rfl _ _ _ rfl w.heap.size 38 _ Y rfl rfl f2 (by rw [size48, hs1]) (by rw [hs1]; rfl) h1 ?_; simp only [Act.put]))
    exact cmd_ret Tryz.results43 rfl f2 hs1 HX2.out hW2.out HW.out (Nat.le_refl _) (hcs _) HE.out

set_option maxRecDepth 100000 in
set_option maxHeartbeats 4000000 in
theorem r_begins2 (g p q : Nat) (k : Int) (ws : List ByteArray) (w : World) (h : Wd g ws w) (hp : w.heap[p]? = some (.cells #[.pointer (some ⟨g, 0, none⟩)] 58 (0, 0))) (hq : w.heap[q]? = some (.cells #[.int .i64 k] 3 (0, 0))) :
    Calls Tryz.prog 48 #[.pointer (some ⟨p, 0, none⟩), .pointer (some ⟨q, 0, none⟩)] w (RPm g (pSpan k ws) w) := by
  have lg := h.lt
  have HW := hide h
  have hW1 := fun Z => hide (h.below (bA (b0 w) (.cells Z 38)))
  have f1 := fun Z => na w Z 38
  have HX1 := fun Z => hide (xA (x0 g w (Nat.le_of_lt lg)) (.cells Z 38))
  have y1 := fun Z i => (rcell (kp (bA (b0 w) (.cells Z 38)) hp)).1 i
  have y2 := fun Z i => (rcell (kp (bA (b0 w) (.cells Z 38)) hq)).1 i
  have c0 := r_span g k ws
  obtain ⟨R, hR⟩ : ∃ R, R = pSpan k ws := ⟨_, rfl⟩
  rw [← hR] at c0 ⊢
  clear hR h
  go_enter Tryz.func48, Tryz.ntmps48
  go_wp2_with fail
  refine (c0 _ (hW1 _).out).mono ?_
  rintro e w2 hp
  cases R with
  | none =>
    obtain ⟨rfl, hx⟩ := hp
    go_wp2
    exact ⟨rfl, rfl, xX (HX1 _).out hx (.inl rfl)⟩
  | some xl =>
    obtain ⟨c, l⟩ := xl
    obtain ⟨v, rfl, hc, hx, hw⟩ := hp
    have f2 := kx hx (f1 _) (by omega)
    have HX2 := hide (xX (HX1 _).out hx (.inl rfl))
    obtain ⟨A, ac, M, mc, rfl, -⟩ := id hc
    have hs1 : (c.cs A ac M mc).size = 19 := cmd_size _ _ _ _ _
    have h1 := cmd_one' c A ac M mc
    generalize c.cs A ac M mc = Y at *
    have hW2 := hide hw
    clear hw hx
    go_wp2_with (refine wpList_storeW rfl _ _ _ rfl w.heap.size 38 _ Y rfl rfl f2 (by rw [size48, hs1]) (by rw [hs1]; rfl) h1 ?_; simp only [Act.put])
    exact cmd_ret Tryz.results48 rfl f2 hs1 HX2.out hW2.out HW.out (Nat.le_refl _) (hc.mono (HX1 _).out.size) rfl

end Go.Proofs.YtbiedfkmmcaplaaGreatDoor

namespace Go.Proofs.YtbiedfkmmcaplaaGreatDoor
open Go.RowKit
attribute [local go_sem] Oper.semAt_some

set_option maxRecDepth 100000 in
set_option maxHeartbeats 4000000 in
theorem r_begins1 (g q : Nat) (k : Int) (ws : List ByteArray) (w : World) (h : Wd g ws w) (hq : w.heap[q]? = some (.cells #[.int .i64 k] 3 (0, 0))) :
    Calls Tryz.prog 45 #[.pointer (some ⟨q, 0, none⟩)] w (RPm g (some ({ ok := k }, ws)) w) := by
  have lg := h.lt
  have HW := hide h
  have hW1 := fun Z => hide (h.below (bA (b0 w) (.cells Z 38)))
  have f1 := fun Z => na w Z 38
  have HX1 := fun Z => hide (xA (x0 g w (Nat.le_of_lt lg)) (.cells Z 38))
  have y2 := fun Z i => (rcell (kp (bA (b0 w) (.cells Z 38)) hq)).1 i
  have hcs : ∀ w', CmdIs w.heap.size w' (.agg (cmdCs 1 ⟨k, 0, ⟨#[]⟩, 0, 0, 0, none, 0, 0, 0, ⟨#[]⟩, 0, 0, 0, 0, ⟨#[]⟩, 0, 0⟩ 0 none 0 0)) { ok := k } := fun w' => ⟨none, 0, none, 0, rfl, RS.nil _, RS.nil _⟩
  have hs1 : (cmdCs 1 ⟨k, 0, ⟨#[]⟩, 0, 0, 0, none, 0, 0, 0, ⟨#[]⟩, 0, 0, 0, 0, ⟨#[]⟩, 0, 0⟩ 0 none 0 0).size = 19 := rfl
  have h1 : (cmdCs 1 ⟨k, 0, ⟨#[]⟩, 0, 0, 0, none, 0, 0, 0, ⟨#[]⟩, 0, 0, 0, 0, ⟨#[]⟩, 0, 0⟩ 0 none 0 0).all (·.oneCell') = true := cmd_one _ _ _ _ _ _
  have c9 := con_do ⟨k, 0, ⟨#[]⟩, 0, 0, 0, none, 0, 0, 0, ⟨#[]⟩, 0, 0, 0, 0, ⟨#[]⟩, 0, 0⟩
  simp only [OpV.cs] at c9
  generalize cmdCs 1 ⟨k, 0, ⟨#[]⟩, 0, 0, 0, none, 0, 0, 0, ⟨#[]⟩, 0, 0, 0, 0, ⟨#[]⟩, 0, 0⟩ 0 none 0 0 = Y at *
  clear h
  go_enter Tryz.func45, Tryz.ntmps45
  go_wp2_with fail
  refine (c9 _).mono ?_
  rintro e w9 ⟨rfl, hb9⟩
  have f9 := kp hb9 (f1 _)
  go_wp2_with (refine wpList_storeW rfl _ _ _ rfl w.heap.size 38 _ Y rfl rfl f9 (by rw [size48, hs1]) (by rw [hs1]; rfl) h1 ?_; simp only [Act.put])
  exact cmd_ret Tryz.results45 rfl f9 hs1 (xB (HX1 _).out hb9) ((hW1 _).out.below hb9) HW.out (Nat.le_refl _) (hcs _) rfl

def pCrash (ws : List ByteArray) : Option (Cm × List ByteArray) :=
  match pInts ws with
  | none => none
  | some l => if l.length ≤ 300 then some ({ kind := 3, masks := l }, []) else none
theorem build48c (A : Option Addr) (n c : Nat) (w : World) : (Instr.build 38 #[(0, .int .i64 3), (3, .slice A n c)]).run Tryz.prog w = .ok (.agg (cmdCs 3 ⟨0, 0, ⟨#[]⟩, 0, 0, 0, none, 0, 0, 0, ⟨#[]⟩, 0, 0, 0, 0, ⟨#[]⟩, 0, 0⟩ 0 A n c)) w := by kernel_rfl

set_option maxRecDepth 100000 in
set_option maxHeartbeats 4000000 in
theorem r_crash (g : Nat) (ws : List ByteArray) (w : World) (h : Wd g ws w) : Calls Tryz.prog 44 #[.pointer (some ⟨g, 0, none⟩)] w (RPm g (pCrash ws) w) := by
  have hmf : ∀ (fn : Fn) (first cap : Array Value) (w : World), (Instr.makeFunc fn first cap).run Tryz.prog w = .ok (.func fn first cap) w := fun _ _ _ _ => rfl
  have lg := h.lt
  have HW := hide h
  have hp1 := na w #[.pointer (some ⟨g, 0, none⟩)] 58
  have hW2 := fun Z => hide ((h.below (bA (b0 w) (.cells #[.pointer (some ⟨g, 0, none⟩)] 58))).below (bA (b0 _) (.cells Z 38)))
  have f2 : ∀ Z, ((w.alloc (.cells #[.pointer (some ⟨g, 0, none⟩)] 58)).alloc (.cells Z 38)).heap[w.heap.size + 1]? = some (.cells Z 38 (0, 0)) := fun Z => by simpa using na (w.alloc (.cells #[.pointer (some ⟨g, 0, none⟩)] 58)) Z 38
  have p2 := fun Z => kp (bA (b0 _) (.cells Z 38)) hp1
  have y2 := fun Z i => (rcell (p2 Z)).1 i
  have HX2 := fun Z => hide (xA (xA (x0 g w (Nat.le_of_lt lg)) (.cells #[.pointer (some ⟨g, 0, none⟩)] 58)) (.cells Z 38))
  have c0 := fun Z => r_ints g w.heap.size ws _ (hW2 Z).out (p2 Z)
  have c1 := must_yes
  have c2 := must_no
  obtain ⟨R, hR⟩ : ∃ R, R = pCrash ws := ⟨_, rfl⟩
  have HE := hide hR
  rw [← hR]
  unfold pCrash at HE
  clear hR h
  go_enter Tryz.func44, Tryz.ntmps44
  go_wp2_with fail
  refine (c0 _).mono ?_
  rintro e w3 hp
  cases e0 : pInts ws with
  | none =>
    rw [e0] at hp
    have hE := HE.out
    simp only [e0] at hE
    obtain ⟨rfl, hx⟩ := hp
    go_wp2
    subst hE
    exact ⟨rfl, rfl, xX (HX2 _).out hx (.inl rfl)⟩
  | some l =>
    rw [e0] at hp
    have hE := HE.out
    simp only [e0] at hE
    replace HE := hide hE
    clear hE e0
    obtain ⟨v, rfl, hx, hw, ho, ho0⟩ := hp
    obtain ⟨A, c, rfl, hk⟩ := ho.crS ho0
    have HK := hide (hk.mono (HX2 _).out.size)
    have HX3 := hide (xX (HX2 _).out hx (.inl rfl))
    have f3 := kx hx (f2 _) (by omega)
    have hW3 := hide hw
    clear hw hx hk ho ho0
    by_cases h300 : l.length ≤ 300
    · have hE := HE.out
      rw [if_pos h300] at hE
      replace HE := hide hE
      have e1 : decide ((l.length : Int) ≤ 300) = true := decide_eq_true (by omega)
      clear hE
      have hcs : ∀ w', RS 3 1 w.heap.size w' A l.length c (intV l) → CmdIs w.heap.size w' (.agg (cmdCs 3 ⟨0, 0, ⟨#[]⟩, 0, 0, 0, none, 0, 0, 0, ⟨#[]⟩, 0, 0, 0, 0, ⟨#[]⟩, 0, 0⟩ 0 A l.length c)) { kind := 3, masks := l } := fun w' hr => ⟨none, 0, A, c, rfl, RS.nil _, hr⟩
      have hs1 : (cmdCs 3 ⟨0, 0, ⟨#[]⟩, 0, 0, 0, none, 0, 0, 0, ⟨#[]⟩, 0, 0, 0, 0, ⟨#[]⟩, 0, 0⟩ 0 A l.length c).size = 19 := rfl
      have h1 : (cmdCs 3 ⟨0, 0, ⟨#[]⟩, 0, 0, 0, none, 0, 0, 0, ⟨#[]⟩, 0, 0, 0, 0, ⟨#[]⟩, 0, 0⟩ 0 A l.length c).all (·.oneCell') = true := cmd_one _ _ _ _ _ _
      have hb := build48c A l.length c
      generalize cmdCs 3 ⟨0, 0, ⟨#[]⟩, 0, 0, 0, none, 0, 0, 0, ⟨#[]⟩, 0, 0, 0, 0, ⟨#[]⟩, 0, 0⟩ 0 A l.length c = Y at *
      go_wp2_with fail
      refine (c1 _).mono ?_
      rintro e w4 ⟨rfl, rfl⟩
      go_wp2_with (first | (refine wpList_buildW rfl _ _ rfl (.agg Y) #[(0, .int .i64 3), (3, .slice A l.length c)] (by simp [Act.eval]) (hb _) ?_; simp only [Act.put, List.setIfInBounds_toArray, List.set_cons_zero, List.set_cons_succ]) | (refine wpList_storeW rfl _ _ _ rfl (w.heap.size + 1) 38 _ Y rfl rfl f3 (by rw [size48, hs1]) (by rw [hs1]; rfl) h1 ?_; simp only [Act.put]))
      exact cmd_ret Tryz.results44 rfl f3 hs1 HX3.out hW3.out HW.out (by omega) (hcs _ HK.out) HE.out
    · have hE := HE.out
      rw [if_neg h300] at hE
      have e1 : decide ((l.length : Int) ≤ 300) = false := decide_eq_false (by omega)
      go_wp2_with fail
      refine (c2 _).mono ?_
      rintro e w4 ⟨rfl, rfl⟩
      go_wp2
      subst hE
      exact ⟨rfl, rfl, HX3.out⟩
end Go.Proofs.YtbiedfkmmcaplaaGreatDoor

namespace Go.Proofs.YtbiedfkmmcaplaaGreatDoor
open Go.RowKit
attribute [local go_sem] Oper.semAt_some

def pAppend (ws : List ByteArray) : Option (Cm × List ByteArray) :=
  match pName ws with
  | none => none
  | some (s, l1) => match pPts l1 with
    | none => none
    | some ps => if 1 ≤ ps.length ∧ ps.length ≤ 20 then some ({ ok := 1, mkd := 3, mn := s, pts := ps }, []) else none

set_option maxRecDepth 100000 in
set_option maxHeartbeats 4000000 in
theorem r_append (g : Nat) (ws : List ByteArray) (w : World) (h : Wd g ws w) : Calls Tryz.prog 38 #[.pointer (some ⟨g, 0, none⟩)] w (RPm g (pAppend ws) w) := by
  have hmf : ∀ (fn : Fn) (first cap : Array Value) (w : World), (Instr.makeFunc fn first cap).run Tryz.prog w = .ok (.func fn first cap) w := fun _ _ _ _ => rfl
  have lg := h.lt
  have HW := hide h
  have hp1 := na w #[.pointer (some ⟨g, 0, none⟩)] 58
  have hW2 := fun Z => hide ((h.below (bA (b0 w) (.cells #[.pointer (some ⟨g, 0, none⟩)] 58))).below (bA (b0 _) (.cells Z 38)))
  have f2 : ∀ Z, ((w.alloc (.cells #[.pointer (some ⟨g, 0, none⟩)] 58)).alloc (.cells Z 38)).heap[w.heap.size + 1]? = some (.cells Z 38 (0, 0)) := fun Z => by simpa using na (w.alloc (.cells #[.pointer (some ⟨g, 0, none⟩)] 58)) Z 38
  have p2 := fun Z => kp (bA (b0 _) (.cells Z 38)) hp1
  have y2 := fun Z i => (rcell (p2 Z)).1 i
  have HX2 := fun Z => hide (xA (xA (x0 g w (Nat.le_of_lt lg)) (.cells #[.pointer (some ⟨g, 0, none⟩)] 58)) (.cells Z 38))
  have c0 := fun Z => r_name g ws _ (hW2 Z).out
  have c1 := must_yes
  have c2 := must_no
  obtain ⟨R, hR⟩ : ∃ R, R = pAppend ws := ⟨_, rfl⟩
  have HE := hide hR
  rw [← hR]
  unfold pAppend at HE
  clear hR h
  go_enter Tryz.func38, Tryz.ntmps38
  go_wp2_with fail
  refine (c0 _).mono ?_
  rintro e w3 hp
  cases e0 : pName ws with
  | none =>
    rw [e0] at hp
    have hE := HE.out
    simp only [e0] at hE
    obtain ⟨rfl, hx⟩ := hp
    go_wp2
    subst hE
    exact ⟨rfl, rfl, xX (HX2 _).out hx (.inl rfl)⟩
  | some sl =>
    obtain ⟨s, l1⟩ := sl
    rw [e0] at hp
    have hE := HE.out
    simp only [e0] at hE
    replace HE := hide hE
    clear hE e0
    obtain ⟨rfl, hx, hw⟩ := hp
    have HX3 := hide (xX (HX2 _).out hx (.inl rfl))
    have f3 := kx hx (f2 _) (by omega)
    have p3 := kx hx (p2 _) (by omega)
    have hW3 := hide hw
    have l3 : w.heap.size + 1 < w3.heap.size := (rcell f3).2.2
    clear hw hx y2
    have y4 : ∀ Z Z' i, (setRow (w3.alloc (.cells Z 30)) w3.heap.size Z').cell? ⟨w.heap.size, i, none⟩ = (#[.pointer (some ⟨g, 0, none⟩)] : Array Value)[i]? := fun Z Z' i =>
      (rcell ((setRow_other (w := w3.alloc (.cells Z 30)) (g := w3.heap.size) Z' (by omega)).trans (kp (bA (b0 _) (.cells Z 30)) p3))).1 i
    go_wp2_with (refine wpList_storeW rfl _ _ _ rfl w3.heap.size 30 _ #[.int .i64 3, .string s, .int .i64 0, .int .i64 0, .int .i64 0, .slice none 0 0] rfl rfl (na _ _ _) size24 rfl (by simp [Value.oneCell']) ?_; simp only [Act.put])
    obtain ⟨q, hq⟩ : ∃ q, q = w3.heap.size := ⟨_, rfl⟩
    clear y4
    generalize hT : setRow (w3.alloc _) w3.heap.size _ = w4
    obtain ⟨hx4, fq4⟩ := fin_x (b0 _) (na w3 _ 30) hT
    have HX4 := hide (xX (xA HX3.out (.cells #[.int .i64 0, .string ⟨#[]⟩, .int .i64 0, .int .i64 0, .int .i64 0, .slice none 0 0] 30)) hx4 (.inr ⟨HX3.out.size, by omega⟩))
    have hW4 := hide ((hW3.out.below (bA (b0 _) (.cells #[.int .i64 0, .string ⟨#[]⟩, .int .i64 0, .int .i64 0, .int .i64 0, .slice none 0 0] 30))).of hx4 (na w3 _ 30) (by decide) (by decide) (HW.out.layX HX4.out))
    have f4 := kx hx4 (kp (bA (b0 _) (.cells #[.int .i64 0, .string ⟨#[]⟩, .int .i64 0, .int .i64 0, .int .i64 0, .slice none 0 0] 30)) f3) (by omega)
    have p4 := kx hx4 (kp (bA (b0 _) (.cells #[.int .i64 0, .string ⟨#[]⟩, .int .i64 0, .int .i64 0, .int .i64 0, .slice none 0 0] 30)) p3) (by omega)
    clear hT hx4
    rw [← hq] at fq4 ⊢
    have hqw : w.heap.size + 1 < q := by omega
    clear hq l3
    refine (r_pts g w.heap.size l1 w4 hW4.out p4).mono ?_
    rintro e w5 hp
    cases e1 : pPts l1 with
    | none =>
      rw [e1] at hp
      have hE := HE.out
      simp only [e1] at hE
      obtain ⟨rfl, hx⟩ := hp
      go_wp2
      subst hE
      exact ⟨rfl, rfl, xX HX4.out hx (.inl rfl)⟩
    | some ps =>
      rw [e1] at hp
      have hE := HE.out
      simp only [e1] at hE
      replace HE := hide hE
      clear hE e1
      obtain ⟨v, rfl, hx, hw, ho, ho0⟩ := hp
      obtain ⟨A, c, rfl, hk⟩ := ho.crS ho0
      have HK := hide (hk.mono HX4.out.size)
      have HX5 := hide (xX HX4.out hx (.inl rfl))
      have f5 := kx hx f4 (by omega)
      have fq5 := kx hx fq4 (by omega)
      have hW5 := hide hw
      clear hw hx hk ho ho0
      obtain ⟨z1, z2, z3⟩ := rcell fq5
      by_cases hlo : 1 ≤ ps.length
      · have e1 : decide ((1 : Int) ≤ (ps.length : Int)) = true := decide_eq_true (by omega)
        by_cases hhi : ps.length ≤ 20
        · have e2 : decide ((ps.length : Int) ≤ 20) = true := decide_eq_true (by omega)
          have hE := HE.out
          rw [if_pos ⟨hlo, hhi⟩] at hE
          replace HE := hide hE
          clear hE
          go_wp2_with fail
          rw [setRow_of_setCell fq5 _ rfl]
          generalize hT : setRow w5 q _ = w6
          obtain ⟨hx6, fq6⟩ := fin_x (b0 _) fq5 hT
          have HX6 := hide (xX HX5.out hx6 (.inr ⟨by omega, by omega⟩))
          have hW6 := hide (hW5.out.of hx6 fq5 (by decide) (by decide) (HW.out.layX HX6.out))
          have HK6 := hide (HK.out.exc hx6 fq5 (by decide))
          have f6 := kx hx6 f5 (by omega)
          clear hT hx6 z1 z2 z3
          simp only [List.setIfInBounds_toArray, List.set_cons_zero, List.set_cons_succ] at fq6
          obtain ⟨z1, z2, z3⟩ := rcell fq6
          have hcs : ∀ w', RS 166 2 w.heap.size w' A ps.length c (ptsV ps) → CmdIs w.heap.size w' (.agg (cmdCs 1 ⟨1, 3, s, 0, 0, 0, A, ps.length, c, 0, ⟨#[]⟩, 0, 0, 0, 0, ⟨#[]⟩, 0, 0⟩ 0 none 0 0)) { ok := 1, mkd := 3, mn := s, pts := ps } := fun w' hr => ⟨A, c, none, 0, rfl, hr, RS.nil _⟩
          have hs1 : (cmdCs 1 ⟨1, 3, s, 0, 0, 0, A, ps.length, c, 0, ⟨#[]⟩, 0, 0, 0, 0, ⟨#[]⟩, 0, 0⟩ 0 none 0 0).size = 19 := rfl
          have h1 : (cmdCs 1 ⟨1, 3, s, 0, 0, 0, A, ps.length, c, 0, ⟨#[]⟩, 0, 0, 0, 0, ⟨#[]⟩, 0, 0⟩ 0 none 0 0).all (·.oneCell') = true := cmd_one _ _ _ _ _ _
          have c9 := con_change 3 0 0 0 s A ps.length c
          generalize cmdCs 1 ⟨1, 3, s, 0, 0, 0, A, ps.length, c, 0, ⟨#[]⟩, 0, 0, 0, 0, ⟨#[]⟩, 0, 0⟩ 0 none 0 0 = Y at *
          refine (c1 _).mono ?_
          rintro e w7 ⟨rfl, rfl⟩
          go_wp2_with fail
          refine (c9 _).mono ?_
          rintro e w9 ⟨rfl, hb9⟩
          have f9 := kp hb9 f6
          go_wp2_with (refine wpList_storeW rfl _ _ _ rfl (w.heap.size + 1) 38 _ Y rfl rfl f9 (by rw [size48, hs1]) (by rw [hs1]; rfl) h1 ?_; simp only [Act.put])
          exact cmd_ret Tryz.results38 rfl f9 hs1 (xB HX6.out hb9) (hW6.out.below hb9) HW.out (by omega) (hcs _ (HK6.out.below hb9)) HE.out
        · have e2 : decide ((ps.length : Int) ≤ 20) = false := decide_eq_false (by omega)
          have hE := HE.out
          rw [if_neg (by omega)] at hE
          go_wp2_with fail
          rw [setRow_of_setCell fq5 _ rfl]
          generalize hT : setRow w5 q _ = w6
          obtain ⟨hx6, fq6⟩ := fin_x (b0 _) fq5 hT
          have HX6 := hide (xX HX5.out hx6 (.inr ⟨by omega, by omega⟩))
          refine (c2 _).mono ?_
          rintro e w7 ⟨rfl, rfl⟩
          go_wp2
          subst hE
          exact ⟨rfl, rfl, HX6.out⟩
      · have e1 : decide ((1 : Int) ≤ (ps.length : Int)) = false := decide_eq_false (by omega)
        have hE := HE.out
        rw [if_neg (by omega)] at hE
        go_wp2_with fail
        rw [setRow_of_setCell fq5 _ rfl]
        generalize hT : setRow w5 q _ = w6
        obtain ⟨hx6, fq6⟩ := fin_x (b0 _) fq5 hT
        have HX6 := hide (xX HX5.out hx6 (.inr ⟨by omega, by omega⟩))
        refine (c2 _).mono ?_
        rintro e w7 ⟨rfl, rfl⟩
        go_wp2
        subst hE
        exact ⟨rfl, rfl, HX6.out⟩
end Go.Proofs.YtbiedfkmmcaplaaGreatDoor

namespace Go.Proofs.YtbiedfkmmcaplaaGreatDoor
open Go.RowKit
attribute [local go_sem] Oper.semAt_some

def plainB (l : List UInt8) : Bool := l.all fun b => decide (32 ≤ b.toNat) && decide (b.toNat ≤ 126)

set_option maxRecDepth 100000 in
set_option maxHeartbeats 4000000 in
theorem con_plain (s : ByteArray) (hs : s.size ≤ 1000000) (w : World) : Calls Tryz.prog 19 #[.string s] w fun e w' => e = .returned (.bool (plainB s.data.toList)) ∧ w' = w := by
  obtain ⟨R, hR⟩ : ∃ R, R = plainB s.data.toList := ⟨_, rfl⟩
  have HR := hide hR
  rw [← hR]
  clear hR
  go_enter Tryz.func19, Tryz.ntmps19
  go_wp2_with fail
  go_loopw [6] (fun vn wr => ∃ k : Nat, wr = w ∧ vn = .int .i64 (k : Int) ∧ k ≤ s.size ∧ Hid (plainB s.data.toList = plainB (s.data.toList.drop k))) (fun vn _ => s.size - (intOf vn).toNat)
  case atStart => exact ⟨0, rfl, rfl, by omega, hide rfl⟩
  case round =>
    obtain ⟨k, rfl, rfl, hk, HH⟩ := hrel
    by_cases hp : k < s.size
    · have e1 : decide ((k : Int) < (s.size : Int)) = true := decide_eq_true (by omega)
      have hdrop := drop_at s k hp
      rw [hdrop] at HH
      by_cases hlo : (s[k]'hp).toNat < 32
      · have HN : Hid (plainB s.data.toList = false) := hide (by rw [HH.out]; simp [plainB]; omega)
        have e2 : decide (((s[k]'hp).toNat : Int) < 32) = true := decide_eq_true (by omega)
        clear HH hdrop
        go_wp2
        go_ret
        have hR := HR.out
        rw [HN.out] at hR
        subst hR
        exact ⟨rfl, rfl⟩
      · have e2 : decide (((s[k]'hp).toNat : Int) < 32) = false := decide_eq_false (by omega)
        by_cases hhi : 126 < (s[k]'hp).toNat
        · have HN : Hid (plainB s.data.toList = false) := hide (by rw [HH.out]; simp [plainB]; omega)
          have e3 : decide ((126 : Int) < ((s[k]'hp).toNat : Int)) = true := decide_eq_true (by omega)
          clear HH hdrop
          go_wp2
          go_ret
          have hR := HR.out
          rw [HN.out] at hR
          subst hR
          exact ⟨rfl, rfl⟩
        · have e3 : decide ((126 : Int) < ((s[k]'hp).toNat : Int)) = false := decide_eq_false (by omega)
          have HN : Hid (plainB s.data.toList = plainB (s.data.toList.drop (k + 1))) := hide (by rw [HH.out]; simp [plainB]; omega)
          clear HH hdrop
          go_wp2
          go_roundw
          case rel => exact ⟨k + 1, by trivial, by go_num, by omega, HN⟩
          case measure => simp [intOf]; omega
    · have e1 : decide ((k : Int) < (s.size : Int)) = false := decide_eq_false (by omega)
      go_wp2
      go_ret
      have hR := HR.out
      rw [HH.out, List.drop_eq_nil_of_le (by simp; omega)] at hR
      subst hR
      exact ⟨rfl, rfl⟩
end Go.Proofs.YtbiedfkmmcaplaaGreatDoor

namespace Go.Proofs.YtbiedfkmmcaplaaGreatDoor
open Go.RowKit
attribute [local go_sem] Oper.semAt_some

def idxFrom : List ByteArray → ByteArray → Nat → Int
  | [], _, _ => -1
  | s :: l, x, k => if x = s then (k : Int) else idxFrom l x (k + 1)

set_option maxRecDepth 100000 in
set_option maxHeartbeats 4000000 in
theorem con_index (A : Option Addr) (c : Nat) (ss : List ByteArray) (x : ByteArray) (w : World) (hr : RV 9 w A c (strV ss)) (hl : ss.length ≤ 1000000) :
    Calls Tryz.prog 35 #[.slice A ss.length c, .string x] w fun e w' => e = .returned (.int .i64 (idxFrom ss x 0)) ∧ w' = w := by
  obtain ⟨R, hR⟩ : ∃ R, R = idxFrom ss x 0 := ⟨_, rfl⟩
  have HR := hide hR
  rw [← hR]
  have HV := hide hr
  clear hR hr
  go_enter Tryz.func35, Tryz.ntmps35
  go_wp2_with fail
  go_loopw [8] (fun vn wr => ∃ k : Nat, wr = w ∧ vn = .int .i64 (k : Int) ∧ k ≤ ss.length ∧ Hid (R = idxFrom (ss.drop k) x k)) (fun vn _ => ss.length - (intOf vn).toNat)
  case atStart => exact ⟨0, rfl, rfl, by omega, hide HR.out⟩
  case round =>
    obtain ⟨k, rfl, rfl, hk, HH⟩ := hrel
    by_cases hp : k < ss.length
    · have e1 : decide ((k : Int) < (ss.length : Int)) = true := decide_eq_true (by omega)
      obtain ⟨g, o, rfl, hc⟩ := HV.out.at_ (k := k) (by rw [strV_len]; omega)
      have hg := strV_get ss k hp
      have e3 : (strV ss)[k]'(by rw [strV_len]; omega) = .string ss[k] := by simp [strV]
      rw [e3] at hc
      have hdrop : ss.drop k = ss[k] :: ss.drop (k + 1) := List.drop_eq_getElem_cons hp
      rw [hdrop] at HH
      obtain ⟨b, hb⟩ : ∃ b, b = ss[k]'hp := ⟨_, rfl⟩
      rw [← hb] at HH hc
      clear hb e3 hdrop hg
      by_cases hx : x = b
      · have e2 : (x.toList == b.toList) = true := by rw [hx]; exact strEq b
        have hR := HH.out
        simp only [idxFrom, if_pos hx] at hR
        clear HH hx
        go_wp2
        go_ret
        subst hR
        exact ⟨rfl, rfl⟩
      · have e2 := strNe hx
        have HN : Hid (R = idxFrom (ss.drop (k + 1)) x (k + 1)) := hide (by rw [HH.out]; simp only [idxFrom, if_neg hx])
        clear HH hx
        go_wp2
        go_roundw
        case rel => exact ⟨k + 1, by trivial, by go_num, by omega, HN⟩
        case measure => simp [intOf]; omega
    · have e1 : decide ((k : Int) < (ss.length : Int)) = false := decide_eq_false (by omega)
      have hR := HH.out
      rw [List.drop_eq_nil_of_le (by omega)] at hR
      simp only [idxFrom] at hR
      go_wp2
      go_ret
      subst hR
      exact ⟨rfl, rfl⟩

theorem con_contains (A : Option Addr) (c : Nat) (ss : List ByteArray) (x : ByteArray) (w : World) (hr : RV 9 w A c (strV ss)) (hl : ss.length ≤ 1000000) :
    Calls Tryz.prog 21 #[.slice A ss.length c, .string x] w fun e w' => e = .returned (.bool (decide (0 ≤ idxFrom ss x 0))) ∧ w' = w := by
  have c0 := con_index A c ss x w hr hl
  generalize idxFrom ss x 0 = R at *
  go_enter Tryz.func21, Tryz.ntmps21
  go_wp2_with fail
  refine c0.mono ?_
  rintro e w2 ⟨rfl, rfl⟩
  go_wp2
  go_ret
  exact ⟨rfl, rfl⟩
end Go.Proofs.YtbiedfkmmcaplaaGreatDoor

namespace Go.Proofs.YtbiedfkmmcaplaaGreatDoor
open Go.RowKit
attribute [local go_sem] Oper.semAt_some

def wCount : ByteArray := ⟨#[99, 111, 117, 110, 116]⟩
def wLeast : ByteArray := ⟨#[108, 101, 97, 115, 116]⟩
def wMost : ByteArray := ⟨#[109, 111, 115, 116]⟩
def wSum : ByteArray := ⟨#[115, 117, 109]⟩
def wMean : ByteArray := ⟨#[109, 101, 97, 110]⟩
def wAt : ByteArray := ⟨#[97, 116]⟩
def wScan : ByteArray := ⟨#[115, 99, 97, 110]⟩
def wBuckets : ByteArray := ⟨#[98, 117, 99, 107, 101, 116, 115]⟩
def whatL : List ByteArray := [⟨#[]⟩, wCount, wLeast, wMost, wSum, wMean, wAt, wScan, wBuckets]
theorem size141 : (Tryz.prog.info? 102).map (·.size) = some 9 := by kernel_rfl
theorem res141 {w : World} {g : Nat} {cs : Array Value} (hg : w.heap[g]? = some (.cells cs 102 (0, 0))) (hs : cs.size = 9) : (loadVar 102 ⟨g, 0, none⟩).run Tryz.prog w = .ok (.agg cs) w :=
  run_loadVar_row w g 102 102 cs (0, 0) _ hg Tryz.underlying102 rfl (by rw [size141, hs])

set_option maxRecDepth 100000 in
set_option maxHeartbeats 4000000 in
theorem con_whats (w : World) : Calls Tryz.prog 47 #[] w fun e w' => e = .returned (.agg (strV whatL).toArray) ∧ Below w.heap.size w w' := by
  have hs1 : (strV whatL).toArray.size = 9 := rfl
  have h1 : (strV whatL).toArray.all (·.oneCell') = true := by simp [strV, whatL, Value.oneCell']
  have hb : ∀ w, (Instr.build 102 #[(1, .string wCount), (2, .string wLeast), (3, .string wMost), (4, .string wSum), (5, .string wMean), (6, .string wAt), (7, .string wScan), (8, .string wBuckets)]).run Tryz.prog w = .ok (.agg (strV whatL).toArray) w := fun w => by kernel_rfl
  generalize (strV whatL).toArray = Y at *
  go_enter Tryz.func47, Tryz.ntmps47
  go_wp2_with (first
    | (refine wpList_buildW rfl _ _ rfl (.agg Y) #[(1, .string wCount), (2, .string wLeast), (3, .string wMost), (4, .string wSum), (5, .string wMean), (6, .string wAt), (7, .string wScan), (8, .string wBuckets)] (by simp [Act.eval, wCount, wLeast, wMost, wSum, wMean, wAt, wScan, wBuckets]) (hb _) ?_; simp only [Act.put, List.setIfInBounds_toArray, List.set_cons_zero, List.set_cons_succ])
    | (refine wpList_storeW rfl _ _ _ rfl w.heap.size 102 _ Y rfl rfl (na _ _ _) (by rw [size141, hs1]) (by rw [hs1]; rfl) h1 ?_; simp only [Act.put]))
  generalize hT : setRow (w.alloc _) w.heap.size _ = w2
  obtain ⟨hb2, hg2⟩ := ret_row (bA (b0 w) _) (Nat.le_refl _) (na _ _ _) hT
  exact bodyPost_ret (v := .agg Y) (res_cell Tryz.results47 rfl (res141 hg2 hs1)) rfl ⟨rfl, hb2⟩

set_option maxRecDepth 100000 in
set_option maxHeartbeats 4000000 in
theorem con_whatRow (w : World) : Calls Tryz.prog 99 #[] w fun e w' => ∃ g, e = .returned (.slice (some ⟨g, 1, none⟩) 5 5) ∧ w'.heap[g]? = some (.cells (strV whatL).toArray 102 (0, 0)) ∧ Below w.heap.size w w' := by
  have c0 := con_whats w
  have hs1 : (strV whatL).toArray.size = 9 := rfl
  have h1 : (strV whatL).toArray.all (·.oneCell') = true := by simp [strV, whatL, Value.oneCell']
  generalize (strV whatL).toArray = Y at *
  go_enter Tryz.func99, Tryz.ntmps99
  go_wp2_with fail
  refine c0.mono ?_
  rintro e w2 ⟨rfl, hb2⟩
  go_wp2_with (refine wpList_storeW rfl _ _ _ rfl w2.heap.size 102 _ Y rfl rfl (na _ _ _) (by rw [size141, hs1]) (by rw [hs1]; rfl) h1 ?_; simp only [Act.put])
  generalize hT : setRow (w2.alloc _) w2.heap.size _ = w3
  obtain ⟨hb3, hg3⟩ := ret_row (bA (b0 w2) _) (Nat.le_refl _) (na _ _ _) hT
  go_ret
  exact ⟨_, rfl, hg3, bB hb2 hb3⟩
end Go.Proofs.YtbiedfkmmcaplaaGreatDoor

namespace Go.Proofs.YtbiedfkmmcaplaaGreatDoor
open Go.RowKit
attribute [local go_sem] Oper.semAt_some

def whatR : List ByteArray := [wCount, wLeast, wMost, wSum, wMean]
def pBuckets (ws : List ByteArray) : Option (Cm × List ByteArray) :=
  match pName ws with
  | none => none
  | some (s, l1) => match pNext l1 with
    | none => none
    | some (x, l2) => if 0 ≤ idxFrom whatR x 0 then
        (match pNum l2 with
        | none => none
        | some (a, l3) => match pNum l3 with
          | none => none
          | some (b, l4) => match pNum l4 with
            | none => none
            | some (n, l5) => some ({ ok := 5, qk := 8, qn := s, qa := a, qb := b, qw := idxFrom whatR x 0 + 1, qN := n }, l5))
      else none
theorem idx_le (x : ByteArray) : ∀ (l : List ByteArray) (k : Nat), idxFrom l x k ≤ ((k + l.length : Nat) : Int) ∧ (-1 ≤ idxFrom l x k)
  | [], k => by simp only [idxFrom, List.length_nil]; omega
  | s :: l, k => by
    have := idx_le x l (k + 1)
    simp only [idxFrom, List.length_cons]
    split <;> omega

set_option maxRecDepth 100000 in
set_option maxHeartbeats 8000000 in
theorem r_buckets (g : Nat) (ws : List ByteArray) (w : World) (h : Wd g ws w) : Calls Tryz.prog 42 #[.pointer (some ⟨g, 0, none⟩)] w (RPm g (pBuckets ws) w) := by
  have lg := h.lt
  have HW := hide h
  have hW1 := fun Z => hide (h.below (bA (b0 w) (.cells Z 38)))
  have f1 := fun Z => na w Z 38
  have HX1 := fun Z => hide (xA (x0 g w (Nat.le_of_lt lg)) (.cells Z 38))
  obtain ⟨R, hR⟩ : ∃ R, R = pBuckets ws := ⟨_, rfl⟩
  have HE := hide hR
  rw [← hR]
  clear hR h
  unfold pBuckets at HE
  have c0 := r_name g ws
  have y1 := must_yes
  have y2 := must_no
  go_enter Tryz.func42, Tryz.ntmps42
  go_wp2_with fail
  refine (c0 _ (hW1 _).out).mono ?_
  rintro e w2 hp
  cases e0 : pName ws with
  | none =>
    rw [e0] at hp
    have hE := HE.out
    simp only [e0] at hE
    obtain ⟨rfl, hx⟩ := hp
    go_wp2
    subst hE
    exact ⟨rfl, rfl, xX (HX1 _).out hx (.inl rfl)⟩
  | some xl =>
    obtain ⟨s, l1⟩ := xl
    rw [e0] at hp
    have hE := HE.out
    simp only [e0] at hE
    replace HE := hide hE
    clear hE e0
    obtain ⟨rfl, hx, hw⟩ := hp
    have HX2 := hide (xX (HX1 _).out hx (.inl rfl))
    have f2 := kx hx (f1 _) (by omega)
    have hW2 := hide hw
    have hsz2 := HX2.out.size
    clear hw hx
    have c1 := con_whatRow
    go_wp2_with (refine wpList_storeW rfl _ _ _ rfl w2.heap.size 32 _ #[.int .i64 8, .string s, .int .i64 0, .int .i64 0, .int .i64 0, .int .i64 0] rfl rfl (na _ _ _) size26 rfl (by simp [Value.oneCell']) ?_; simp only [Act.put])
    obtain ⟨q, hq⟩ : ∃ q, q = w2.heap.size := ⟨_, rfl⟩
    generalize hT : setRow (w2.alloc _) w2.heap.size _ = w3
    obtain ⟨hx3, fq3⟩ := fin_x (b0 _) (na w2 _ 32) hT
    have HX3 := hide (xX (xA HX2.out (.cells #[.int .i64 0, .string ⟨#[]⟩, .int .i64 0, .int .i64 0, .int .i64 0, .int .i64 0] 32)) hx3 (.inr ⟨hsz2, by omega⟩))
    have hW3 := hide ((hW2.out.below (bA (b0 _) (.cells #[.int .i64 0, .string ⟨#[]⟩, .int .i64 0, .int .i64 0, .int .i64 0, .int .i64 0] 32))).of hx3 (na w2 _ 32) (by decide) (by decide) (HW.out.layX HX3.out))
    have l2 : w.heap.size < w2.heap.size := (rcell f2).2.2
    have f3 := kx hx3 (kp (bA (b0 _) (.cells #[.int .i64 0, .string ⟨#[]⟩, .int .i64 0, .int .i64 0, .int .i64 0, .int .i64 0] 32)) f2) (by omega)
    clear hT hx3
    rw [← hq] at fq3 ⊢
    have hqw : w.heap.size < q := by omega
    clear hq l2 hsz2
    refine (c1 _).mono ?_
    rintro e w4 ⟨gW, rfl, hgW, hb4⟩
    have c2 := Tryz.slices_Clone_string gW 1 5 5 whatR w4 (by decide) (by decide) (fun j hj => by
      rw [(rcell hgW).1]
      have : j = 0 ∨ j = 1 ∨ j = 2 ∨ j = 3 ∨ j = 4 := by simp [whatR] at hj; omega
      rcases this with rfl | rfl | rfl | rfl | rfl <;> rfl)
    go_wp2_with fail
    refine c2.mono ?_
    rintro e w5 ⟨vR, rfl, hoR, -, hb5⟩
    have hB5 := bB hb4 hb5
    have HX5 := hide (xB HX3.out hB5)
    have hW5 := hide (hW3.out.below hB5)
    have f5 := kp hB5 f3
    have fq5 := kp hB5 fq3
    obtain ⟨AR, cR, rfl, hRR⟩ := OwnV.cr (T := 9) (B := w4.heap.size) (w := w5) (v := vR) (l := strV whatR) hoR
    have c3 := r_next g l1
    clear c2 hoR hgW
    go_wp2_with fail
    refine (c3 _ hW5.out).mono ?_
    rintro e w6 hp
    cases e1 : pNext l1 with
    | none =>
      rw [e1] at hp
      have hE := HE.out
      simp only [e1] at hE
      obtain ⟨rfl, hx⟩ := hp
      go_wp2
      subst hE
      exact ⟨rfl, rfl, xX HX5.out hx (.inl rfl)⟩
    | some xl =>
      obtain ⟨x, l2⟩ := xl
      rw [e1] at hp
      have hE := HE.out
      simp only [e1] at hE
      replace HE := hide hE
      clear hE e1
      obtain ⟨K, hK⟩ : ∃ K, K = idxFrom whatR x 0 := ⟨_, rfl⟩
      have hK1 : -1 ≤ K := by rw [hK]; exact (idx_le x whatR 0).2
      have hK2 : K ≤ 5 := by rw [hK]; exact (idx_le x whatR 0).1
      obtain ⟨rfl, hx, hw⟩ := hp
      have HX6 := hide (xX HX5.out hx (.inl rfl))
      have f6 := kx hx f5 (by omega)
      have fq6 := kx hx fq5 (by omega)
      have hW6 := hide hw
      obtain ⟨A0, c00, hg0, -⟩ := hW5.out.hg
      have hRR6 := hRR.exc hx hg0 (by decide)
      have c4 := con_index AR cR whatR x w6 hRR6 (by decide)
      clear hw hx
      go_wp2_with fail
      refine c4.mono ?_
      rintro e w7 ⟨rfl, rfl⟩
      rw [← hK] at HE ⊢
      obtain ⟨z1, z2, z3⟩ := rcell fq6
      clear hK hRR hRR6 c4 hg0
      by_cases hk0 : 0 ≤ K
      · have eK : decide ((1 : Int) ≤ K + 1) = true := decide_eq_true (by omega)
        have hE := HE.out
        rw [if_pos hk0] at hE
        replace HE := hide hE
        clear hE
        go_wp2_with fail
        rw [setRow_of_setCell fq6 _ rfl]
        generalize hT : setRow w7 q _ = w8
        obtain ⟨hx8, fq8⟩ := fin_x (b0 _) fq6 hT
        have HX8 := hide (xX HX6.out hx8 (.inr ⟨Nat.le_of_lt hqw, by omega⟩))
        have hW8 := hide (hW6.out.of hx8 fq6 (by decide) (by decide) (HW.out.layX HX8.out))
        have f8 := kx hx8 f6 (by omega)
        clear hT hx8 z1 z2 z3
        simp only [List.setIfInBounds_toArray, List.set_cons_zero, List.set_cons_succ] at fq8
        refine (y1 _).mono ?_
        rintro e w9 ⟨rfl, rfl⟩
        have d0 := r_number g l2
        go_wp2_with fail
        refine (d0 _ hW8.out).mono ?_
        rintro e w20 hp
        cases e9 : pNum l2 with
        | none =>
          rw [e9] at hp
          have hE := HE.out
          simp only [e9] at hE
          obtain ⟨rfl, hx⟩ := hp
          go_wp2
          subst hE
          exact ⟨rfl, rfl, xX HX8.out hx (.inl rfl)⟩
        | some xl =>
          obtain ⟨a, l3⟩ := xl
          rw [e9] at hp
          have hE := HE.out
          simp only [e9] at hE
          replace HE := hide hE
          clear hE e9
          obtain ⟨rfl, hx, hw⟩ := hp
          have HX20 := hide (xX HX8.out hx (.inl rfl))
          have f20 := kx hx f8 (by omega)
          have fq20 := kx hx fq8 (by omega)
          have hW20 := hide hw
          clear hw hx
          obtain ⟨z1, z2, z3⟩ := rcell fq20
          go_wp2_with fail
          rw [setRow_of_setCell fq20 _ rfl]
          generalize hT : setRow w20 q _ = w21
          obtain ⟨hx21, fq21⟩ := fin_x (b0 _) fq20 hT
          have HX21 := hide (xX HX20.out hx21 (.inr ⟨Nat.le_of_lt hqw, by omega⟩))
          have hW21 := hide (hW20.out.of hx21 fq20 (by decide) (by decide) (HW.out.layX HX21.out))
          have f21 := kx hx21 f20 (by omega)
          clear hT hx21 z1 z2 z3
          simp only [List.setIfInBounds_toArray, List.set_cons_zero, List.set_cons_succ] at fq21
          have d1 := r_number g l3
          refine (d1 _ hW21.out).mono ?_
          rintro e w22 hp
          cases e9 : pNum l3 with
          | none =>
            rw [e9] at hp
            have hE := HE.out
            simp only [e9] at hE
            obtain ⟨rfl, hx⟩ := hp
            go_wp2
            subst hE
            exact ⟨rfl, rfl, xX HX21.out hx (.inl rfl)⟩
          | some xl =>
            obtain ⟨b, l4⟩ := xl
            rw [e9] at hp
            have hE := HE.out
            simp only [e9] at hE
            replace HE := hide hE
            clear hE e9
            obtain ⟨rfl, hx, hw⟩ := hp
            have HX22 := hide (xX HX21.out hx (.inl rfl))
            have f22 := kx hx f21 (by omega)
            have fq22 := kx hx fq21 (by omega)
            have hW22 := hide hw
            clear hw hx
            obtain ⟨z1, z2, z3⟩ := rcell fq22
            go_wp2_with fail
            rw [setRow_of_setCell fq22 _ rfl]
            generalize hT : setRow w22 q _ = w23
            obtain ⟨hx23, fq23⟩ := fin_x (b0 _) fq22 hT
            have HX23 := hide (xX HX22.out hx23 (.inr ⟨Nat.le_of_lt hqw, by omega⟩))
            have hW23 := hide (hW22.out.of hx23 fq22 (by decide) (by decide) (HW.out.layX HX23.out))
            have f23 := kx hx23 f22 (by omega)
            clear hT hx23 z1 z2 z3
            simp only [List.setIfInBounds_toArray, List.set_cons_zero, List.set_cons_succ] at fq23
            have d2 := r_number g l4
            refine (d2 _ hW23.out).mono ?_
            rintro e w24 hp
            cases e9 : pNum l4 with
            | none =>
              rw [e9] at hp
              have hE := HE.out
              simp only [e9] at hE
              obtain ⟨rfl, hx⟩ := hp
              go_wp2
              subst hE
              exact ⟨rfl, rfl, xX HX23.out hx (.inl rfl)⟩
            | some xl =>
              obtain ⟨n, l5⟩ := xl
              rw [e9] at hp
              have hE := HE.out
              simp only [e9] at hE
              replace HE := hide hE
              clear hE e9
              obtain ⟨rfl, hx, hw⟩ := hp
              have HX24 := hide (xX HX23.out hx (.inl rfl))
              have f24 := kx hx f23 (by omega)
              have fq24 := kx hx fq23 (by omega)
              have hW24 := hide hw
              clear hw hx
              obtain ⟨z1, z2, z3⟩ := rcell fq24
              have hcs : ∀ w', CmdIs w.heap.size w' (.agg (cmdCs 1 ⟨5, 0, ⟨#[]⟩, 0, 0, 0, none, 0, 0, 8, s, a, b, (K + 1), n, ⟨#[]⟩, 0, 0⟩ 0 none 0 0)) { ok := 5, qk := 8, qn := s, qa := a, qb := b, qw := K + 1, qN := n } := fun w' => ⟨none, 0, none, 0, rfl, RS.nil _, RS.nil _⟩
              have hs1 : (cmdCs 1 ⟨5, 0, ⟨#[]⟩, 0, 0, 0, none, 0, 0, 8, s, a, b, (K + 1), n, ⟨#[]⟩, 0, 0⟩ 0 none 0 0).size = 19 := rfl
              have h1 : (cmdCs 1 ⟨5, 0, ⟨#[]⟩, 0, 0, 0, none, 0, 0, 8, s, a, b, (K + 1), n, ⟨#[]⟩, 0, 0⟩ 0 none 0 0).all (·.oneCell') = true := cmd_one _ _ _ _ _ _
              have c9 := con_do ⟨5, 0, ⟨#[]⟩, 0, 0, 0, none, 0, 0, 8, s, a, b, (K + 1), n, ⟨#[]⟩, 0, 0⟩
              simp only [OpV.cs] at c9
              generalize cmdCs 1 ⟨5, 0, ⟨#[]⟩, 0, 0, 0, none, 0, 0, 8, s, a, b, (K + 1), n, ⟨#[]⟩, 0, 0⟩ 0 none 0 0 = Y at *
              go_wp2_with fail
              rw [setRow_of_setCell fq24 _ rfl]
              generalize hT : setRow w24 q _ = w25
              obtain ⟨hx25, fq25⟩ := fin_x (b0 _) fq24 hT
              have HX25 := hide (xX HX24.out hx25 (.inr ⟨Nat.le_of_lt hqw, by omega⟩))
              have hW25 := hide (hW24.out.of hx25 fq24 (by decide) (by decide) (HW.out.layX HX25.out))
              have f25 := kx hx25 f24 (by omega)
              clear hT hx25 z1 z2 z3
              simp only [List.setIfInBounds_toArray, List.set_cons_zero, List.set_cons_succ] at fq25
              refine (c9 _).mono ?_
              rintro e w9 ⟨rfl, hb9⟩
              have f9 := kp hb9 f25
              go_wp2_with (refine wpList_storeW rfl _ _ _ rfl w.heap.size 38 _ Y rfl rfl f9 (by rw [size48, hs1]) (by rw [hs1]; rfl) h1 ?_; simp only [Act.put])
              exact cmd_ret Tryz.results42 rfl f9 hs1 (xB HX25.out hb9) (hW25.out.below hb9) HW.out (Nat.le_refl _) (hcs _) HE.out
      · have eK : decide ((1 : Int) ≤ K + 1) = false := decide_eq_false (by omega)
        have hE := HE.out
        rw [if_neg hk0] at hE
        go_wp2_with fail
        rw [setRow_of_setCell fq6 _ rfl]
        generalize hT : setRow w7 q _ = w8
        obtain ⟨hx8, fq8⟩ := fin_x (b0 _) fq6 hT
        have HX8 := hide (xX HX6.out hx8 (.inr ⟨Nat.le_of_lt hqw, by omega⟩))
        have hW8 := hide (hW6.out.of hx8 fq6 (by decide) (by decide) (HW.out.layX HX8.out))
        have f8 := kx hx8 f6 (by omega)
        clear hT hx8 z1 z2 z3
        simp only [List.setIfInBounds_toArray, List.set_cons_zero, List.set_cons_succ] at fq8
        refine (y2 _).mono ?_
        rintro e w9 ⟨rfl, rfl⟩
        go_wp2
        subst hE
        exact ⟨rfl, rfl, HX8.out⟩
end Go.Proofs.YtbiedfkmmcaplaaGreatDoor
