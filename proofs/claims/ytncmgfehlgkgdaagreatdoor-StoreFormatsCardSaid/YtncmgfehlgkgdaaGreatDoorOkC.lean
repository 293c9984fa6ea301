/- The oracle for sums is right. -/
import Derived.Test.YtncmgfehlgkgdaaGreatDoorOkX
import Derived.Test.YtncmgfehlgkgdaaGreatDoorCr
set_option linter.unusedSimpArgs false
set_option linter.unusedVariables false
set_option linter.unusedSectionVars false
namespace Go.Proofs.Tryz
open Go.Proofs.Ex Go.RowKit Go.Proofs.YtncmgfehlgkgdaaGreatDoor
variable [Sg]

theorem crT_get : ∀ i, i < 16 → crT.get i = some (crcT.getD i 0) := by
  intro i h
  have : i = 0 ∨ i = 1 ∨ i = 2 ∨ i = 3 ∨ i = 4 ∨ i = 5 ∨ i = 6 ∨ i = 7 ∨ i = 8 ∨ i = 9 ∨ i = 10 ∨ i = 11 ∨ i = 12 ∨ i = 13 ∨ i = 14 ∨ i = 15 := by omega
  rcases this with rfl | rfl | rfl | rfl | rfl | rfl | rfl | rfl | rfl | rfl | rfl | rfl | rfl | rfl | rfl | rfl <;> rfl

theorem crH_eq {s n : Nat} (hs : s < 4294967296) (hn : n < 16) : crH s n = crcH s n := by
  unfold crH crcH
  have e : Nat.xor (s / 268435456) n = s / 268435456 ^^^ n := rfl
  rw [e, crT_get _ (idx_lt hs hn)]
  rfl
theorem crB_eq {s c : Nat} (hs : s < 4294967296) (hc : c < 256) : crB s c = crcB s c := by
  unfold crB crcB
  rw [crH_eq hs (by omega), crH_eq (crcH_lt _ _) (by omega)]

theorem crS_cons {v : Value} {l : List Value} {s r : Nat} (h : crS (v :: l) s = some r) : ∃ c : Nat, v = .int .u8 c ∧ c < 256 ∧ crS l (crB s c) = some r := by
  cases v with
  | int k m =>
    cases k <;> cases m <;> first
      | (simp [crS] at h; done)
      | (rename_i c
         change (bif Nat.blt c 256 then crS l (crB s c) else none) = some r at h
         cases hc : Nat.blt c 256 with
         | false => rw [hc] at h; cases h
         | true =>
           rw [hc] at h
           exact ⟨c, rfl, Nat.le_of_ble_eq_true hc, h⟩)
  | _ => simp [crS] at h

theorem crS_sound : ∀ (l : List Value) (s r : Nat), s < 4294967296 → crS l s = some r → ∃ ns : List Int, l = ns.map (Value.int .u8) ∧ (∀ x ∈ ns, 0 ≤ x ∧ x < 256) ∧ r = crcS s ns := by
  intro l
  induction l with
  | nil => intro s r hs h; simp only [crS] at h; cases h; exact ⟨[], rfl, fun x hx => (by cases hx), rfl⟩
  | cons v l ih =>
    intro s r hs h
    obtain ⟨c, rfl, hc', h⟩ := crS_cons h
    obtain ⟨ns, h1, h2, h3⟩ := ih _ _ (by rw [crB_eq hs hc']; exact crcB_lt _ _) h
    refine ⟨(c : Int) :: ns, by rw [h1]; rfl, ?_, ?_⟩
    · intro x hx
      rcases List.mem_cons.1 hx with rfl | hx
      · omega
      · exact h2 x hx
    · rw [h3, crB_eq hs hc']
      rfl

theorem closed_bytes : ∀ ns : List Int, allClosed (ns.map (Value.int .u8)) = true := by
  intro ns
  induction ns with
  | nil => rfl
  | cons x ns ih => simp only [List.map_cons, allClosed, ih]; rfl

theorem xO_ok : ∀ f args h v, xO f args h = some v → ∀ (E : Env) (w : World) (args' : List Value), HR E h w → LR E args args' →
    Calls prog f args'.toArray w fun e w' => ∃ v', e = .returned v' ∧ VR E v v' ∧ Below w.heap.size w w' := by
  intro f args h v ho E w args' hr ha
  unfold xO at ho
  cases hf : Nat.beq f 306 with
  | false => rw [hf] at ho; cases ho
  | true =>
    rw [hf] at ho
    simp only [cond_true] at ho
    have := Nat.eq_of_beq_eq_true hf
    subst this
    unfold crM at ho
    split at ho
    · rename_i s a n c
      cases hc : (Nat.blt s 4294967296 && Nat.ble n 9223372036854775807) with
      | false => rw [hc] at ho; cases ho
      | true =>
        rw [hc] at ho
        simp only [cond_true] at ho
        simp only [Bool.and_eq_true] at hc
        have hs : s < 4294967296 := Nat.le_of_ble_eq_true hc.1
        have hn : n ≤ 9223372036854775807 := Nat.le_of_ble_eq_true hc.2
        split at ho
        · rename_i l hl
          cases hlen : Nat.beq l.length n with
          | false => rw [hlen] at ho; cases ho
          | true =>
          rw [hlen] at ho
          simp only [cond_true] at ho
          have hlen := Nat.eq_of_beq_eq_true hlen
          split at ho
          · rename_i r hcr
            cases ho
            obtain ⟨ns, rfl, hb, rfl⟩ := crS_sound _ _ _ hs hcr
            obtain ⟨u1, t1, rfl, q1, ht⟩ := ha.cases
            obtain ⟨u2, t2, rfl, q2, ht2⟩ := ht.cases
            have := ht2.nil_right
            subst this
            rw [q1.int_inv]
            have hall := closed_bytes ns
            cases q2 with
            | nilSlice =>
              simp only [firstA, Option.some.injEq] at hl
              have hns : ns = [] := by
                cases ns with
                | nil => rfl
                | cons x ns => simp at hl
              subst hns
              simp only [List.map_nil, List.length_nil] at hlen
              subst hlen
              refine (crc_More s none c [] hs (by simp) 5 w (fun h => by simp at h) hb).mono ?_
              rintro e w' ⟨rfl, hbl⟩
              exact ⟨_, rfl, .int _ _, hbl⟩
            | slice ad cp =>
              rename_i a1 a2 c2
              obtain ⟨b, off, spot⟩ := a1
              obtain ⟨b2, off2, spot2⟩ := a2
              obtain ⟨d1, d2, d3⟩ := ad
              simp only at d1 d2 d3
              subst d2 d3
              cases spot2 with
              | some q => simp [firstA] at hl
              | none =>
                simp only [firstA] at hl
                split at hl
                · rename_i cc z zs k cap e hg
                  obtain ⟨c', hw, hcr, _⟩ := hr.at hg d1
                  rw [Nat.mul_one] at hl
                  obtain ⟨l', g1, g2, g3⟩ := readN_spec hcr _ _ _ hl
                  have e1 := g2.eq hall
                  subst e1
                  simp only [List.length_map] at hlen
                  subst hlen
                  refine (crc_More s (some ⟨b2, off2, none⟩) c2 ns hs hn e w (fun _ => ⟨b2, off2, c', rfl, hw, fun i hi => ?_⟩) hb).mono ?_
                  · exact g3 i _ (by simp [hi])
                  · rintro e w' ⟨rfl, hbl⟩
                    exact ⟨_, rfl, .int _ _, hbl⟩
                · cases hl
          · cases ho
        · cases ho
    · cases ho
theorem xL_ok : LkOK prog xL where
  ti := xti_ok
  fs := fun f fn h => (xfs_ok f fn h).1
  call := fun f fn c h hb => (xfs_ok f fn h).2 c hb
  ext := xE_ok
  orc := xO_ok
  orx := fun _ _ _ _ _ _ _ h => (by cases h)
  sbin := fun _ _ _ _ _ h => (by cases h)
  sun := fun _ _ _ h => (by cases h)
  scv := fun _ _ _ _ h => (by cases h)
  wide := fun _ h => (by cases h)
  smx := fun _ _ _ _ h => (by cases h)
theorem xfollows : prog.follows .mixedOrders = true := by kernel_rfl
end Go.Proofs.Tryz
