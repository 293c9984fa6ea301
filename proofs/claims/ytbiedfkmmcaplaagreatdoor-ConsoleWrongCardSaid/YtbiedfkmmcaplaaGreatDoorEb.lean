/- What operations do to what is known, seventh part: stores, slices anew, maps, iterators. No program is imported. What operations do to what is known, eighth part: maps, copies, rows that grow. No program is imported. What operations do to what is known, ninth part: rows that grow. No program is impo -/
import Derived.Test.YtbiedfkmmcaplaaGreatDoorEa
import Derived.Laws.MakeOwn
import Derived.Laws.BytesString
import Derived.Laws.RangeString
import Derived.Deep.DeepAppendWide
set_option linter.all false
namespace Go.Proofs.Ex
variable [Sg]
section
variable {P : Program} {L : Lk} {F : Nat → Prop} {w0 : World} {lim : Nat} {E : Env} {tm : Tr Value} {h : Tr AO} {nx : Nat} {w : World} {ρ : Operand → Value}

theorem RR.turn {v v1 : Value} {h1 : Tr AO} {w1 : World} {m : Sem Next} {res : Next} (hS : Sit F w0 lim E h1 nx w1) (hm : m.run P w = .ok res w1) (hres : res = .value v1 ∨ (res = .skip ∧ v1 = undef)) (hv : VR E v v1) :
    RR P F w0 lim E nx w (.val v h1 nx) m := ⟨Nat.le_refl _, fun _ => ⟨E, w1, v1, res, hm, hres, .refl _ _ _, hS, hv⟩⟩

theorem Sit.stored (hS : Sit F w0 lim E h nx w) {id b o k : Nat} {l l' : List Value} {h' : Tr AO} (hb : E.ρ id = some b) (hl : LR E l l') (hk : l.length = k) (he : storeL h id o l k = some h') :
    Sit F w0 lim E h' nx (w.setCells b o l') ∧ w.there b o l'.length ∧ (∀ v ∈ l', v.oneCell' = true) := by
  obtain ⟨p1, p2, p3, p4, ⟨oj, hoj⟩, p5, p6, p7, p8, p9⟩ := storeL_sound hS.hr hS.inj hb hl hk he
  exact ⟨hS.turn p1 p4 (fun k hk => p5 k fun e => hk id oj hoj (by rw [e]; exact hb)) (Nat.le_of_eq p6.symm) p7 p8 p9, p2, p3⟩

theorem aStore_sound (hti : ∀ t ti, L.ti.get t = some ti → TIok P t ti) (hS : Sit F w0 lim E h nx w) (hρ : ∀ x v, ev tm x = some v → VR E v (ρ x)) {t : TypeId} {a x : Operand} {r : R} (he : aStore L tm h nx t a x = some r) :
    RR P F w0 lim E nx w r (do Instr.storeAt t (ρ a) (ρ x); pure .skip) := by
  unfold aStore at he
  split at he
  · rename_i av v ha hx
    split at he
    · rename_i h' hst
      cases he
      have har := hρ _ _ ha
      have hxr := hρ _ _ hx
      unfold storeA at hst
      split at hst
      · rename_i b off
        split at hst
        · cases hst
        · rename_i ti ht
          cases hb : Nat.beq v.cells.size ti.size with
          | false => rw [hb] at hst; cases hst
          | true =>
            rw [hb] at hst
            simp only [cond_true] at hst
            have hsz : v.cells.size = ti.size := Nat.eq_of_beq_eq_true hb
            generalize ρ a = y at har
            cases har with
            | ptr ad =>
              rename_i a2
              obtain ⟨b2, o2, s2⟩ := a2
              obtain ⟨hb1, ho, hsp⟩ := ad
              simp only at hb1 ho hsp
              subst ho hsp
              have hc := hxr.cells
              obtain ⟨q1, q2, q3⟩ := hS.stored hb1 hc.list (by simpa using hsz) hst
              refine RR.turn q1 (run_u ?_) (.inr ⟨rfl, rfl⟩) (VR.undef E)
              have hrun := run_storeCells_cells (P := P) b2 o2 (ρ x).cells.toList 0 w (fun j hj => by simpa using (q2 j (by simpa using hj)).1) (fun j hj => by simpa using (q2 j (by simpa using hj)).2) q3
              have hne : ¬ (ρ x).cells.size ≠ ti.size := by rw [← hc.1, hsz]; simp
              unfold Instr.storeAt storeVar
              simp only [Instr.sureAddr, Sem.run_bind, Sem.run_pure, Result.andThen_ok, (hti _ _ ht).size w, hne, if_false]
              simpa using hrun
      · cases hst
    · cases he
  · cases he

theorem aLoad_sound (hti : ∀ t ti, L.ti.get t = some ti → TIok P t ti) (hS : Sit F w0 lim E h nx w) (hρ : ∀ x v, ev tm x = some v → VR E v (ρ x)) {t : TypeId} {a : Operand} {r : R} (he : aLoad L tm h nx t a = some r) :
    RR P F w0 lim E nx w r (do pure (.value (← Instr.loadAt t (ρ a)))) := by
  unfold aLoad at he
  split at he
  · rename_i av ha
    unfold vR at he
    split at he
    · rename_i v hv
      cases he
      obtain ⟨x', h1, h2⟩ := loadA_sound hti hS.hr (hρ _ _ ha) hv
      exact .val hS (run_v h1) h2
    · cases he
  · cases he

theorem aMakeSlice_sound (hti : ∀ t ti, L.ti.get t = some ti → TIok P t ti) (hwd : ∀ j, L.wide j = true → ∃ N : Nat, Sg.σ j = some (.int .i64 (N : Int)) ∧ 24 ≤ N ∧ N ≤ 256) (hS : Sit F w0 lim E h nx w) (hρ : ∀ x v, ev tm x = some v → VR E v (ρ x)) {t : TypeId} {l c : Operand} {r : R} (he : aMakeSlice L tm h nx t l c = some r) :
    RR P F w0 lim E nx w r (do pure (.value (← Instr.makeSlice t (ρ l) (ρ c)))) := by
  unfold aMakeSlice at he
  split at he
  · rename_i lv cv hl hc
    have hlr := hρ _ _ hl
    have hcr := hρ _ _ hc
    unfold makeSliceA at he
    split at he
    · rename_i k1 l' k2 c'
      split at he
      · rename_i ti ht
        have hde := (hti _ _ ht).desc
        split at he
        · rename_i elem hd
          rw [hd] at hde
          split at he
          · rename_i ei hei
            have Te := hti _ _ hei
            cases hb : (Nat.ble l' c' && Nat.ble (ei.bytes * c') 281474976710656 && Nat.blt c' 9223372036854775808) with
            | false => rw [hb] at he; cases he
            | true =>
              rw [hb] at he
              cases he
              simp only [Bool.and_eq_true] at hb
              have b1 := Nat.le_of_ble_eq_true hb.1.1
              have b2 := Nat.le_of_ble_eq_true hb.1.2
              have b3 := blt_lt hb.2
              rw [hlr.int_inv, hcr.int_inv]
              obtain ⟨i, hi, hs, hby, hz⟩ := Te.info
              have hrun := run_make (P := P) w t elem i ei.zero hde hi hz k1 k2 (l' : Int) (c' : Int) (by omega) (by omega) (by rw [hby, ← Int.natCast_mul]; exact Int.ofNat_le.2 b2) (by omega)
              rw [hs] at hrun
              simp only [Int.toNat_natCast] at hrun
              refine RR.alloc hS (o' := .cells (madeCells ei.zero.cells (c' * ei.size)) elem (0, 0)) (v1 := .slice (some ⟨w.heap.size, 0, none⟩) l' c')
                (fun E1 hE => .cells (zero_cells Te E1 c' _ _ rfl (size_madeCells _ _) fun j hj => ?_) (size_madeCells _ _)) (run_v hrun) (fun E1 h1 => .slice ⟨h1, rfl, rfl⟩ (.inl ⟨by unfold CB; omega, rfl⟩))
              have hpos : 0 < ei.zero.cells.size := by
                rw [Te.zsize]
                rcases Nat.eq_zero_or_pos ei.size with h0 | h0
                · rw [h0] at hj; omega
                · exact h0
              simp [madeCells, hj, Nat.mod_lt j hpos]
          · cases he
        · cases he
      · cases he
    · rename_i jj kk
      split at he
      · rename_i ti ht
        have hde := (hti _ _ ht).desc
        split at he
        · rename_i elem hd
          rw [hd] at hde
          split at he
          · rename_i ei hei
            have Te := hti _ _ hei
            cases hb : (Nat.beq jj kk && L.wide jj && Nat.ble (ei.bytes * 256) 281474976710656) with
            | false => rw [hb] at he; cases he
            | true =>
              rw [hb] at he
              cases he
              simp only [Bool.and_eq_true] at hb
              have b1 := Nat.eq_of_beq_eq_true hb.1.1
              subst b1
              obtain ⟨N, n1, n2, n3⟩ := hwd _ hb.1.2
              have b2 := Nat.le_of_ble_eq_true hb.2
              have at1 : ∀ v : Value, VR E (.complex .f64 jj 0) v → v = .int .i64 (N : Int) := by
                intro v hv
                cases hv with
                | atom h1 _ => rw [n1] at h1; exact (Option.some.inj h1).symm
              rw [at1 _ hlr, at1 _ hcr]
              obtain ⟨i, hi, hs, hby, hz⟩ := Te.info
              have b4 : ei.bytes * N ≤ 281474976710656 := Nat.le_trans (Nat.mul_le_mul_left _ n3) b2
              have hrun := run_make (P := P) w t elem i ei.zero hde hi hz .i64 .i64 (N : Int) (N : Int) (by omega) (by omega) (by rw [hby, ← Int.natCast_mul]; exact Int.ofNat_le.2 b4) (by omega)
              rw [hs] at hrun
              simp only [Int.toNat_natCast] at hrun
              refine RR.alloc hS (o' := .cells (madeCells ei.zero.cells (N * ei.size)) elem (0, 0)) (v1 := .slice (some ⟨w.heap.size, 0, none⟩) N N)
                (fun E1 hE => .long n1 n2 (zero_cells Te E1 N _ _ rfl (size_madeCells _ _) fun j hj => ?_) (size_madeCells _ _)) (run_v hrun) (fun E1 h1 => .long h1 n1 n2 n3)
              have hpos : 0 < ei.zero.cells.size := by
                rw [Te.zsize]
                rcases Nat.eq_zero_or_pos ei.size with h0 | h0
                · rw [h0] at hj; omega
                · exact h0
              simp [madeCells, hj, Nat.mod_lt j hpos]
          · cases he
        · cases he
      · cases he
    · cases he
  · cases he

theorem aMakeMap_sound (hS : Sit F w0 lim E h nx w) (t : TypeId) : RR P F w0 lim E nx w (.val (.map (some nx)) (h.set nx (.map [] 0)) (nx + 1)) (do pure (.value (← Instr.makeMap t none))) :=
  RR.alloc hS (o' := .map #[] 0) (v1 := .map (some w.heap.size)) (fun E1 _ => .map rfl fun i e e' p => by simp at p) (run_v rfl) (fun E1 h1 => .map h1)

theorem aRange_sound (hti : ∀ t ti, L.ti.get t = some ti → TIok P t ti) (hS : Sit F w0 lim E h nx w) (hρ : ∀ x v, ev tm x = some v → VR E v (ρ x)) {t : TypeId} {x : Operand} {r : R} (he : aRange tm h nx L t x = some r) :
    RR P F w0 lim E nx w r (do pure (.value (← Instr.range t (ρ x)))) := by
  unfold aRange at he
  split at he
  · rename_i s ti hx ht
    have hde := (hti _ _ ht).desc
    split at he
    · rename_i hd
      rw [hd] at hde
      cases he
      rw [(hρ _ _ hx).string_inv]
      refine RR.alloc hS (o' := .stringIter s 0) (v1 := .pointer (some ⟨w.heap.size, 0, none⟩)) (fun E1 _ => .iter _ _) (run_v ?_) (fun E1 h1 => ptr_new h1)
      simp [Instr.range, run_underlying hde]
    · cases he
  · cases he

theorem Sit.setObj (hS : Sit F w0 lim E h nx w) {id b : Nat} {o1 : AO} {o o' : Obj} (hg : h.get id = some o1) (hb : E.ρ id = some b) (hw : w.heap[b]? = some o) {o2 : AO} (ho : ObjR E o2 o') :
    Sit F w0 lim E (h.set id o2) nx { w with heap := w.heap.setIfInBounds b o' } := by
  have hlt : b < w.heap.size := (Array.getElem?_eq_some_iff.1 hw).1
  refine hS.turn (fun j oj hj => ?_) (fun j oj hj => ?_) (fun k hk => ?_) (by simp) rfl rfl rfl
  · rw [Tr.get_set] at hj
    by_cases hji : j = id
    · subst hji
      rw [if_pos rfl] at hj; cases hj
      exact ⟨b, o', hb, by simp [hlt], ho⟩
    · rw [if_neg hji] at hj
      obtain ⟨b2, o3, h1, h2, h3⟩ := hS.hr j oj hj
      have hne : b2 ≠ b := fun e => hji (hS.inj j id oj o1 b2 hj hg h1 (by rw [e]; exact hb))
      exact ⟨b2, o3, h1, by rw [Array.getElem?_setIfInBounds_ne (Ne.symm hne)]; exact h2, h3⟩
  · rw [Tr.get_set] at hj
    by_cases hji : j = id
    · subst hji; exact ⟨_, hg⟩
    · rw [if_neg hji] at hj; exact ⟨_, hj⟩
  · have hne : b ≠ k := fun e => hk id o1 hg (by rw [← e]; exact hb)
    rw [Array.getElem?_setIfInBounds_ne hne]

theorem run_setObj_of {o o' : Obj} {b : Nat} (hw : w.heap[b]? = some o) (hn : ∀ c e f, o ≠ .cells c e f) : (setObj b o').run P w = .ok () { w with heap := w.heap.setIfInBounds b o' } := by
  unfold setObj Sem.run
  rw [hw]
  cases o <;> first
    | exact absurd rfl (hn _ _ _)
    | rfl
theorem run_getObj_of {o : Obj} {b : Nat} (hw : w.heap[b]? = some o) (hn : ∀ c e f, o ≠ .cells c e f) : (getObj b).run P w = .ok o w := by
  unfold getObj Sem.run
  rw [hw]
  cases o <;> first
    | exact absurd rfl (hn _ _ _)
    | rfl

theorem aNext_sound (hS : Sit F w0 lim E h nx w) (hρ : ∀ x v, ev tm x = some v → VR E v (ρ x)) {x : Operand} {ty : TypeId} {r : R} (he : aNext tm h nx x = some r) :
    RR P F w0 lim E nx w r (do pure (.value (← Instr.next (ρ x) true ty))) := by
  unfold aNext at he
  split at he
  · rename_i b hx
    have hxr := hρ _ _ hx
    generalize ρ x = y at hxr
    cases hxr with
    | ptr ad =>
      rename_i a2
      obtain ⟨b2, o2, s2⟩ := a2
      obtain ⟨hb1, ho, hsp⟩ := ad
      simp only at hb1 ho hsp
      subst ho hsp
      split at he
      · rename_i s pos hg
        obtain ⟨b', o', h1, h2, h3⟩ := hS.hr _ _ hg
        rw [hb1] at h1; cases h1
        cases h3
        have g1 := run_getObj_of (P := P) h2 (fun _ _ _ => by simp)
        cases hb : Nat.blt pos s.size with
        | true =>
          rw [hb] at he
          simp only [cond_true] at he
          cases hd : Utf8.decode s pos with
          | mk c wd =>
            rw [hd] at he
            simp only at he
            cases he
            have hS1 := hS.setObj hg hb1 h2 (o2 := .iter s (pos + wd)) (.iter _ _)
            refine RR.turn (v1 := .tuple #[.bool true, goInt pos, .int .i32 c]) hS1 (run_v ?_) (.inl rfl) ?_
            · have hlt := blt_lt hb
              unfold Instr.next
              simp only [Sem.run_bind, g1, Result.andThen_ok, hlt, if_true, hd, run_setObj_of (P := P) h2 (fun _ _ _ => by simp), Sem.run_pure]
            · exact VR.closed rfl
        | false =>
          rw [hb] at he
          simp only [cond_false] at he
          cases he
          refine .val hS (v1 := .tuple #[.bool false]) (run_v ?_) (VR.closed rfl)
          have hge : ¬ pos < s.size := fun hh => by rw [blt_true hh] at hb; cases hb
          unfold Instr.next
          simp only [Sem.run_bind, g1, Result.andThen_ok, hge, if_false, Sem.run_pure]
      · cases he
  · cases he

theorem EL.set {es es' : List MapEntry} (x : EL E es es') {i : Nat} {f g : MapEntry → MapEntry} (hf : ∀ e e', EntR E e e' → EntR E (f e) (g e')) : EL E (es.modify i f) (es'.modify i g) := by
  refine ⟨by simp [x.1], fun j a b p q => ?_⟩
  rw [List.getElem?_modify] at p q
  cases hp : es[j]? with
  | none => rw [hp] at p; simp at p
  | some e =>
    cases hq : es'[j]? with
    | none => rw [hq] at q; simp at q
    | some e' =>
      rw [hp] at p; rw [hq] at q
      have := x.2 j e e' hp hq
      simp only [Option.map_eq_map, Option.map_some, Option.some.injEq] at p q
      subst p q
      split
      · exact hf _ _ this
      · exact this

end
end Go.Proofs.Ex

namespace Go.Proofs.Ex
variable [Sg]
section
variable {P : Program} {L : Lk} {F : Nat → Prop} {w0 : World} {lim : Nat} {E : Env} {tm : Tr Value} {h : Tr AO} {nx : Nat} {w : World} {ρ : Operand → Value}

theorem sameBits_of {d : TypeDesc} {k a : Value} (hd : (∃ q, d = .int q) ∨ d = .string) (he : Instr.sameNow d k a = some true) (n : Nat) : Instr.sameBits n a k = true := by
  unfold Instr.sameNow at he
  split at he
  · rename_i k1 a1 k2 b1
    by_cases hk : k1 = k2
    · subst hk
      rw [if_pos rfl] at he
      have : a1 = b1 := by simpa using he
      subst this
      cases n <;> simp [Instr.sameBits]
    · rw [if_neg hk] at he; cases he
  · rename_i a b
    have h1 : (a == b) = true := by injection he
    have h2 : (a.data == b.data) = true := h1
    have h3 : a.data = b.data := eq_of_beq h2
    have h4 : (b == a) = true := by
      show (b.data == a.data) = true
      rw [h3]; simp
    cases n <;> simpa [Instr.sameBits] using h4
  · rcases hd with ⟨q, hd⟩ | hd <;> cases hd
  · cases he

theorem findNow_at {d : TypeDesc} {k : Value} : ∀ (es : List MapEntry) (i j : Nat) (v : Value), Instr.findNow d k es i = some (some (j, v)) → ∃ e, i ≤ j ∧ es[j - i]? = some e ∧ Instr.sameNow d k e.key = some true := by
  intro es
  induction es with
  | nil => intro i j v h; simp [Instr.findNow] at h
  | cons e es ih =>
    intro i j v h
    simp only [Instr.findNow] at h
    split at h
    · rename_i hs
      simp only [Option.some.injEq, Prod.mk.injEq] at h
      obtain ⟨rfl, rfl⟩ := h
      exact ⟨e, Nat.le_refl _, by simp, hs⟩
    · obtain ⟨e', h1, h2, h3⟩ := ih (i + 1) j v h
      exact ⟨e', by omega, by rw [show j - i = (j - (i + 1)) + 1 by omega, List.getElem?_cons_succ]; exact h2, h3⟩
    · cases h

theorem EL.push {es es' : List MapEntry} (x : EL E es es') {e e' : MapEntry} (h : EntR E e e') : EL E (es ++ [e]) (es' ++ [e']) := by
  refine ⟨by simp [x.1], fun j a b p q => ?_⟩
  by_cases hj : j < es.length
  · rw [List.getElem?_append_left hj] at p
    rw [List.getElem?_append_left (by rw [← x.1]; exact hj)] at q
    exact x.2 j a b p q
  · rw [List.getElem?_append_right (by omega)] at p
    rw [List.getElem?_append_right (by rw [← x.1]; omega)] at q
    rw [← x.1] at q
    have : j - es.length = 0 := by
      have := (List.getElem?_eq_some_iff.1 p).1
      simp at this; omega
    rw [this] at p q
    simp at p q
    subst p q; exact h

theorem EL.obj {es : List MapEntry} {es' : Array MapEntry} {ck : Nat} (x : EL E es es'.toList) : ObjR E (.map es ck) (.map es' ck) :=
  .map (by simpa using x.1) fun i a b p q => x.2 i a b p (by simpa using q)

theorem aUpdate_sound (hti : ∀ t ti, L.ti.get t = some ti → TIok P t ti) (hS : Sit F w0 lim E h nx w) (hρ : ∀ x v, ev tm x = some v → VR E v (ρ x)) {t : TypeId} {m k x : Operand} {r : R} (he : aUpdate L tm h nx t m k x = some r) :
    RR P F w0 lim E nx w r (do Instr.mapUpdate t (ρ m) (ρ k) (ρ x); pure .skip) := by
  unfold aUpdate at he
  split at he
  · rename_i mv kv xv hm hk hx
    have hmr := hρ _ _ hm
    have hkr := hρ _ _ hk
    have hxr := hρ _ _ hx
    generalize ρ m = m' at hmr
    generalize ρ k = k' at hkr
    generalize ρ x = x' at hxr
    unfold mapUpdateA at he
    split at he
    · rename_i ti rr ht
      have hde := (hti _ _ ht).desc
      split at he
      · rename_i key elem es ck hd hg
        rw [hd] at hde
        split at he
        · rename_i ki hki
          have hkde := (hti _ _ hki).desc
          cases hmr with
          | map hb =>
            rename_i b
            obtain ⟨es', hw, hel⟩ := hS.hr.map hg hb
            have g1 := run_getObj_map (P := P) hw
            have main : ((∃ q, ki.desc = .int q) ∨ ki.desc = .string) →
                (match Instr.findNow ki.desc kv es 0 with
                  | some (some (i, _)) => some (R.val undef (h.set rr (.map (es.modify i fun e => { e with key := kv, val := xv }) ck)) nx)
                  | some none => some (R.val undef (h.set rr (.map (es ++ [{ key := kv, val := xv, born := ck }]) (ck + 1))) nx)
                  | none => none) = some r →
                RR P F w0 lim E nx w r (do Instr.mapUpdate t (.map (some b)) k' x'; pure .skip) := by
              intro hkk hq
              have hck := checkKey_run (w := w) (P := P) hkde hkk false 9999 k'
              have hck' : (Instr.checkKey false 10000 key k').run P w = .ok () w := hck
              cases hf : Instr.findNow ki.desc kv es 0 with
              | none => simp only [hf] at hq; cases hq
              | some f =>
                obtain ⟨f', hf', hrr⟩ := findNow_rel hkr es es'.toList 0 f hel hf
                rcases hrr with ⟨rfl, rfl⟩ | ⟨j, v, v', rfl, rfl, hv⟩
                · simp only [hf] at hq
                  cases hq
                  have hS1 := hS.setObj hg hb hw (o2 := .map (es ++ [{ key := kv, val := xv, born := ck }]) (ck + 1)) (o' := .map (es'.push { key := k', val := x', born := ck }) (ck + 1))
                    (EL.obj (by simpa using hel.push (e := { key := kv, val := xv, born := ck }) (e' := { key := k', val := x', born := ck }) ⟨hkr, hxr, rfl⟩))
                  refine RR.turn hS1 (run_u ?_) (.inr ⟨rfl, rfl⟩) (VR.undef E)
                  unfold Instr.mapUpdate
                  simp only [Sem.run_bind, run_underlying hde, Result.andThen_ok, g1, hck', Instr.findKey, run_underlying hkde, hf', Sem.run_pure, run_setObj_of (P := P) hw (fun _ _ _ => by simp)]
                · simp only [hf] at hq
                  cases hq
                  obtain ⟨e, _, he1, he2⟩ := findNow_at _ _ _ _ hf'
                  have hS1 := hS.setObj hg hb hw (o2 := .map (es.modify j fun e => { e with key := kv, val := xv }) ck) (o' := .map (es'.modify j fun e => { e with key := k', val := x' }) ck)
                    (EL.obj (by simpa using hel.set (i := j) (f := fun e => { e with key := kv, val := xv }) (g := fun e => { e with key := k', val := x' }) fun e e' hh => ⟨hkr, hxr, hh.2.2⟩))
                  refine RR.turn hS1 (run_u ?_) (.inr ⟨rfl, rfl⟩) (VR.undef E)
                  have hke : (Instr.keyThatStays (((es'[j]?).map (·.key)).getD k') k').run P w = .ok k' w := by
                    have e1 : es'[j]? = some e := by simpa using he1
                    rw [e1]
                    have hb := sameBits_of hkk he2 10000
                    unfold Instr.keyThatStays
                    simp [hb]
                  unfold Instr.mapUpdate
                  simp only [Sem.run_bind, run_underlying hde, Result.andThen_ok, g1, hck', Instr.findKey, run_underlying hkde, hf', Sem.run_pure, hke, run_setObj_of (P := P) hw (fun _ _ _ => by simp)]
            split at he
            · rename_i q hq; exact main (.inl ⟨_, hq⟩) he
            · rename_i hq; exact main (.inr hq) he
            · cases he
        · cases he
      · cases he
    · cases he
  · cases he
end
end Go.Proofs.Ex

namespace Go.Proofs.Ex
variable [Sg]
section
variable {P : Program} {L : Lk} {F : Nat → Prop} {w0 : World} {lim : Nat} {E : Env} {tm : Tr Value} {h : Tr AO} {nx : Nat} {w : World} {ρ : Operand → Value}

theorem addr_add (b o j : Nat) : (⟨b, o, none⟩ : Addr).add j = ⟨b, o + j, none⟩ := Addr.add_mid b o j

theorem firstA_sound (hr : HR E h w) {size n : Nat} {x x' : Value} {l : List Value} (hx : VR E x x') (he : firstA h size n x = some l) :
    ∃ l', LR E l l' ∧ (∀ w2 : World, w2.heap = w.heap → (Builtin.firstCells size n x').run P w2 = .ok l'.toArray w2) ∧ ((∀ s, x ≠ .string s) → (∀ a b, x ≠ .slice none a b) → l.length = n * size) := by
  unfold firstA at he
  split at he
  · rename_i b off len cap
    split at he
    · rename_i c z zs k cp e hg
      cases hx with
      | slice ad cpr =>
        rename_i a2 c2
        obtain ⟨b2, o2, s2⟩ := a2
        obtain ⟨hb1, ho, hsp⟩ := ad
        simp only at hb1 ho hsp
        subst ho hsp
        obtain ⟨c', hw, hc, _⟩ := hr.at hg hb1
        obtain ⟨l', hlen, hlr, hat⟩ := readN_spec hc _ _ _ he
        refine ⟨l', hlr, fun w2 hw2 => ?_, fun _ _ => hlen⟩
        refine run_firstCells_some w2 size n ⟨b2, o2, none⟩ len c2 l' (by rw [← hlr.1, hlen]) fun j v hv => ?_
        rw [addr_add]
        have : w2.heap[b2]? = some (.cells c' e (0, 0)) := by rw [hw2]; exact hw
        simp [World.cell?, this, hat j v hv]
    · cases he
  · rename_i len cap
    cases he
    cases hx
    exact ⟨[], .nil E, fun w2 _ => run_firstCells_none w2 size n len cap, fun _ h2 => absurd rfl (h2 len cap)⟩
  · rename_i s
    cases he
    rw [hx.string_inv]
    refine ⟨((s.extract 0 n).data.toList.map fun b => .int .u8 b.toNat), ⟨rfl, fun i a b p q => ?_⟩, fun w2 _ => ?_, fun h1 => absurd rfl (h1 s)⟩
    · rw [p] at q; cases q
      have : a ∈ (((s.extract 0 n).data.toList.map fun b => Value.int .u8 b.toNat) : List Value) := List.mem_of_getElem? p
      obtain ⟨u, _, rfl⟩ := List.mem_map.1 this
      exact .int _ _
    · show Result.ok _ w2 = _
      congr 1
      apply Array.ext'
      simp only [Array.toList_map]
  · cases he

structure SrcOk (P : Program) (w : World) (size : Nat) (elem t2 : TypeId) (x' : Value) (n : Nat) (new' : List Value) : Prop where
  len : new'.length = n * size
  is : (((∃ e', P.underlying t2 = some (.slice e')) ∨ P.underlying t2 = some .string) ∧ (∀ w2 : World, (Builtin.lenOf x').run P w2 = .ok n w2) ∧ ∀ w2 : World, w2.heap = w.heap → (Builtin.firstCells size n x').run P w2 = .ok new'.toArray w2) ∨
    (∃ k2 k, P.underlying t2 = some (.int k2) ∧ x' = .int k (n : Int) ∧ n ≤ 1000000 ∧ ∃ z i, P.info? elem = some i ∧ i.zero = some z ∧ i.size = size ∧ n * i.bytes ≤ 281474976710656 ∧ z.cells.size = size ∧ new'.toArray = Builtin.zeroCells z.cells n)

theorem run_append_room_ok {t t2 ty elem : TypeId} {i : TypeInfo} (ht : P.underlying t = some (.slice elem)) (hi : P.info? elem = some i) {x' : Value} {n : Nat} {new' : List Value} (hs : SrcOk P w i.size elem t2 x' n new')
    {base : Option Addr} {len cap : Nat} (hroom : len + n ≤ cap) {w1 : World}
    (hst : ∀ a, base = some a → (storeCells (a.add (len * i.size)) new').run P w = .ok () w1) (hno : base = none → w1 = w) :
    (Builtin.append_ #[t, t2] ty #[.slice base len cap, x']).run P w = .ok (.slice base (len + n) cap) w1 := by
  rcases hs.is with ⟨hk, hl, hf⟩ | ⟨k2, k, hd, rfl, hn, z, i2, hi2, hz, hsz, hby, hzs, hnew⟩
  · have hf := hf w rfl
    cases base with
    | none =>
      have := hno rfl; subst this
      rcases hk with ⟨e', hd⟩ | hd <;> simp [Builtin.append_, run_underlying ht, run_underlying hd, sizeOf, typeInfo, hi, hl, hroom, hf]
    | some a =>
      have := hst a rfl
      rcases hk with ⟨e', hd⟩ | hd <;> simp [Builtin.append_, run_underlying ht, run_underlying hd, sizeOf, typeInfo, hi, hl, hroom, hf, this]
  · rw [hi] at hi2; cases hi2
    have hw : IntKind.i64.wrap (n : Int) = (n : Int) := by rw [IntKind.wrap_i64]; omega
    have h1 : ¬ ((n : Int) < 0) := by omega
    have h2 : ¬ (281474976710656 < (n : Int) * (i.bytes : Int)) := by rw [← Int.natCast_mul]; exact Int.not_lt.2 (Int.ofNat_le.2 hby)
    by_cases h0 : n * i.size = 0
    · have hnil : new' = [] := List.length_eq_zero_iff.1 (by rw [hs.len]; exact h0)
      subst hnil
      cases base with
      | none =>
        have := hno rfl; subst this
        simp [Builtin.append_, run_underlying ht, run_underlying hd, sizeOf, typeInfo, hi, asInt, asIntOf, hw, h1, h2, hroom, h0]
      | some a =>
        have := hst a rfl
        simp [Builtin.append_, run_underlying ht, run_underlying hd, sizeOf, typeInfo, hi, asInt, asIntOf, hw, h1, h2, hroom, h0, this]
    · cases base with
      | none =>
        have := hno rfl; subst this
        simp [Builtin.append_, run_underlying ht, run_underlying hd, sizeOf, typeInfo, hi, asInt, asIntOf, hw, h1, h2, hroom, h0, zeroValue, hz]
      | some a =>
        have := hst a rfl
        have e : (Builtin.zeroCells z.cells n).toList = new' := by rw [← hnew]
        simp [Builtin.append_, run_underlying ht, run_underlying hd, sizeOf, typeInfo, hi, asInt, asIntOf, hw, h1, h2, hroom, h0, zeroValue, hz, e, this]

theorem run_append_grow_ok {t t2 ty elem : TypeId} {i : TypeInfo} {z : Value} (ht : P.underlying t = some (.slice elem)) (hi : P.info? elem = some i) (hz : i.zero = some z) {x' : Value} {n : Nat} {new' : List Value} (hs : SrcOk P w i.size elem t2 x' n new')
    {base : Option Addr} {len cap : Nat} (hg : cap < len + n) {olds : List Value} (hold : (Builtin.firstCells i.size len (.slice base len cap)).run P w.drew = .ok olds.toArray w.drew)
    (h63 : ((len + n : Nat) : Int) ≤ 9223372036854775807) (hfit : Builtin.nextslicecap (len + n) cap * i.bytes ≤ 281474976710656) :
    (Builtin.append_ #[t, t2] ty #[.slice base len cap, x']).run P w =
      .ok (.slice (some ⟨w.heap.size, 0, none⟩) (len + n) (grownCap w (len + n) cap elem))
        (w.drew.alloc (.cells ((olds ++ new').toArray ++ Builtin.zeroCells z.cells (grownCap w (len + n) cap elem - (len + n))) elem)) := by
  have hn : ¬ (len + n ≤ cap) := by omega
  have h63' : ¬ (9223372036854775807 < ((len : Int) + (n : Int))) := by omega
  have h48' : ¬ (281474976710656 < Builtin.nextslicecap (len + n) cap * i.bytes) := by omega
  rcases hs.is with ⟨hk, hl, hf⟩ | ⟨k2, k, hd, rfl, hn1, z2, i2, hi2, hz2, hsz, hby, hzs, hnew⟩
  · have hf := hf w.drew rfl
    rcases hk with ⟨e', hd⟩ | hd
    all_goals
      (simp [Builtin.append_, run_underlying ht, run_underlying hd, sizeOf, typeInfo, zeroValue, hi, hz, hl, hn, h63', h48', Question.forced, hf, hold, newRow, grownCap]
       try (congr 2
            apply Array.ext'
            simp [List.append_assoc]))
  · rw [hi] at hi2; cases hi2
    rw [hz] at hz2; cases hz2
    have hw : IntKind.i64.wrap (n : Int) = (n : Int) := by rw [IntKind.wrap_i64]; omega
    have h1 : ¬ ((n : Int) < 0) := by omega
    have h2 : ¬ (281474976710656 < (n : Int) * (i.bytes : Int)) := by rw [← Int.natCast_mul]; exact Int.not_lt.2 (Int.ofNat_le.2 hby)
    by_cases h0 : n * i.size = 0
    · have hnil : new' = [] := List.length_eq_zero_iff.1 (by rw [hs.len]; exact h0)
      subst hnil
      simp [Builtin.append_, run_underlying ht, run_underlying hd, sizeOf, typeInfo, zeroValue, hi, hz, asInt, asIntOf, hw, h1, h2, hn, h63', h48', h0, Question.forced, hold, newRow, grownCap]
    · simp [Builtin.append_, run_underlying ht, run_underlying hd, sizeOf, typeInfo, zeroValue, hi, hz, asInt, asIntOf, hw, h1, h2, hn, h63', h48', h0, Question.forced, hold, newRow, grownCap, ← hnew]
      congr 2
      apply Array.ext'
      simp [List.append_assoc]
end
end Go.Proofs.Ex

namespace Go.Proofs.Ex
variable [Sg]
section
variable {P : Program} {L : Lk} {F : Nat → Prop} {w0 : World} {lim : Nat} {E : Env} {tm : Tr Value} {h : Tr AO} {nx : Nat} {w : World} {ρ : Operand → Value}

theorem zeroCells_rel {t : TypeId} {ti : TI} (T : TIok P t ti) (E : Env) (n : Nat) : LR E (Builtin.zeroCells ti.zero.cells n).toList (Builtin.zeroCells ti.zero.cells n).toList ∧ (Builtin.zeroCells ti.zero.cells n).size = n * ti.size := by
  have hsz : (Builtin.zeroCells ti.zero.cells n).size = n * ti.size := by simp [Builtin.zeroCells, T.zsize]
  refine ⟨⟨rfl, fun i a b p q => ?_⟩, hsz⟩
  rw [p] at q; cases q
  have hi : i < n * ti.size := by
    have := (List.getElem?_eq_some_iff.1 p).1
    simpa [hsz] using this
  have hpos : 0 < ti.zero.cells.size := by
    rw [T.zsize]
    rcases Nat.eq_zero_or_pos ti.size with h0 | h0
    · rw [h0] at hi; omega
    · exact h0
  have hlt := Nat.mod_lt i hpos
  have hi' : i < n * ti.zero.cells.size := by rw [T.zsize]; exact hi
  simp [Builtin.zeroCells, hi', hlt] at p
  subst p
  have hg : ti.zero.cells[i % ti.zero.cells.size]? = some (ti.zero.cells[i % ti.zero.cells.size]'hlt) := by simp
  obtain ⟨v', g1, g2⟩ := (T.zero E).cells.get hg
  rw [hg] at g1; cases g1; exact g2

theorem srcA_sound (hti : ∀ t ti, L.ti.get t = some ti → TIok P t ti) (hr : HR E h w) {elem t2 : TypeId} {ei t2i : TI} (Te : TIok P elem ei) (T2 : TIok P t2 t2i) {x x' : Value} {n : Nat} {new : List Value} (hx : VR E x x')
    (he : srcA h ei t2i.desc x = some (n, new)) (hlen : new.length = n * ei.size) : ∃ new', LR E new new' ∧ SrcOk P w ei.size elem t2 x' n new' := by
  have hde := T2.desc
  unfold srcA at he
  split at he
  · rename_i k2 hd
    rw [hd] at hde
    split at he
    · rename_i k m
      cases hb : (Nat.ble m 1000000 && Nat.ble (m * ei.bytes) 281474976710656 && closed ei.zero) with
      | false => rw [hb] at he; cases he
      | true =>
        rw [hb] at he
        simp only [cond_true, Option.some.injEq, Prod.mk.injEq] at he
        obtain ⟨rfl, rfl⟩ := he
        simp only [Bool.and_eq_true] at hb
        obtain ⟨i, hi, hs, hby, hz⟩ := Te.info
        obtain ⟨z1, z2⟩ := zeroCells_rel Te E m
        exact ⟨_, z1, ⟨by simpa using z2, .inr ⟨k2, k, hde, hx.int_inv, Nat.le_of_ble_eq_true hb.1.1, ei.zero, i, hi, hz, hs, by rw [hby]; exact Nat.le_of_ble_eq_true hb.1.2, Te.zsize, by simp⟩⟩⟩
    · cases he
  · rename_i e' hd
    rw [hd] at hde
    split at he
    · rename_i a m c
      split at he
      · rename_i l hl
        cases he
        obtain ⟨l', h1, h2, _⟩ := firstA_sound (P := P) hr hx hl
        refine ⟨l', h1, ⟨by rw [← h1.1, hlen], .inl ⟨.inl ⟨e', hde⟩, fun w2 => ?_, h2⟩⟩⟩
        cases hx <;> rfl
      · cases he
    · cases he
  · rename_i hd
    rw [hd] at hde
    split at he
    · rename_i s
      split at he
      · rename_i l hl
        cases hb : Nat.beq ei.size 1 with
        | false => rw [hb] at he; cases he
        | true =>
          rw [hb] at he
          cases he
          obtain ⟨l', h1, h2, _⟩ := firstA_sound (P := P) hr hx hl
          refine ⟨l', h1, ⟨by rw [← h1.1, hlen], .inl ⟨.inr hde, fun w2 => ?_, h2⟩⟩⟩
          rw [hx.string_inv]; rfl
      · cases he
    · cases he
  · cases he

theorem Sit.drop (hS : Sit F w0 lim E h nx w) (id : Nat) : Sit F w0 lim E (h.del id) nx w := by
  have hd : ∀ j oj, (h.del id).get j = some oj → j ≠ id ∧ h.get j = some oj := by
    intro j oj hj
    rw [Tr.get_del] at hj
    split at hj
    · cases hj
    · rename_i hne; exact ⟨hne, hj⟩
  exact ⟨fun j oj hj => hS.hr j oj (hd j oj hj).2, fun i j oi oj b hi hj p q => hS.inj i j oi oj b (hd i oi hi).2 (hd j oj hj).2 p q, hS.os, hS.tape, hS.output, hS.keeps,
    fun j oj b hj hb => hS.away j oj b (hd j oj hj).2 hb, hS.fresh, hS.gr⟩

theorem grown_ge (w : World) (need old : Nat) (e : TypeId) (h : need < 9223372036854775808) : need ≤ grownCap w need old e ∧ grownCap w need old e < CB := by
  have : grownCap w need old e = need + (w.tape w.drawn (.appendCap need old e)) % (2 ^ 63 - need) := rfl
  rw [this]
  have hm := Nat.mod_lt (w.tape w.drawn (.appendCap need old e)) (show 0 < 2 ^ 63 - need by omega)
  unfold CB
  omega

theorem put2_ext (hS : Sit F w0 lim E h nx w) (hlim : nx + 1 < lim) (b k : Nat) : Ext E ((E.put nx b).putK (nx + 1) k) nx (nx + 2) :=
  ⟨Env.le_trans (Env.put_le (hS.fresh nx (Nat.le_refl _) (by omega)).1) (Env.putK_le (by show E.κ (nx + 1) = none; exact (hS.fresh (nx + 1) (by omega) hlim).2)),
   fun id hid => ⟨by show (if id = nx then some b else E.ρ id) = _; rw [if_neg (by omega)], by show (if id = nx + 1 then some k else E.κ id) = _; rw [if_neg (by omega)]⟩⟩

theorem CB_mul (n : Nat) : (CB * n) / CB = n ∧ (CB * n) % CB = 0 := ⟨Nat.mul_div_cancel_left n (by decide), Nat.mul_mod_right CB n⟩

theorem SizeR.sym {E : Env} {j k es n s : Nat} (h : E.κ j = some k) (hs : s = k * es) : SizeR E n (some (j, es)) s := ⟨k, h, hs⟩

theorem appendNew_sound {hh : Tr AO} (hS : Sit F w0 lim E hh nx w) {elem : TypeId} {size need gc : Nat} {all all' : List Value} {zc : Array Value} {r : R} {m : Sem Value} (hl : LR E all all') (hg : need ≤ gc ∧ gc < CB) (hz : zc.size = (gc - need) * size)
    (hm : m.run P w = .ok (.slice (some ⟨w.heap.size, 0, none⟩) need gc) (w.drew.alloc (.cells (all'.toArray ++ zc) elem))) (he : appendNew hh nx elem size need all = some r) :
    RR P F w0 lim E nx w r (do pure (.value (← m))) := by
  unfold appendNew at he
  cases hb : (all.all flat && Nat.beq all.length (need * size)) with
  | false => rw [hb] at he; cases he
  | true =>
    rw [hb] at he
    cases he
    rw [Bool.and_eq_true] at hb
    have hlen : all.length = need * size := Nat.eq_of_beq_eq_true hb.2
    refine ⟨by omega, fun hlim => ?_⟩
    have hx := put2_ext hS (by omega) w.heap.size gc
    have hcap : ((E.put nx w.heap.size).putK (nx + 1) gc).κ (nx + 1) = some gc := Env.putK_κ _ _ _
    refine ⟨(E.put nx w.heap.size).putK (nx + 1) gc, w.drew.alloc (.cells (all'.toArray ++ zc) elem), _, _, run_v hm, .inl rfl, hx, ?_, ?_⟩
    · have hll := hl.mono hx.1
      refine hS.alloc (o' := .cells (all'.toArray ++ zc) elem (0, 0)) hx.1 (by omega) (fun _ => rfl) (fun i hi => by show (if i = nx + 1 then some gc else E.κ i) = _; rw [if_neg (by omega)]) (by omega)
        (.cells (list_cells hll _ (by simp) (fun i hi => by rw [Array.getElem?_append_left (by simpa using hi)]; simp) hlen) (SizeR.sym hcap ?_)) rfl rfl rfl rfl
      have h1 := hl.1
      have h3 : gc * size = need * size + (gc - need) * size := by rw [← Nat.add_mul]; congr 1; omega
      simp [hz]; omega
    · refine .slice ⟨Env.put_ρ _ _ _, rfl, rfl⟩ (.inr ⟨?_, hg.1, gc, ?_, ?_, hg.2⟩)
      · have : 1 ≤ nx + 1 := by omega
        calc CB = CB * 1 := by omega
          _ ≤ CB * (nx + 1) := Nat.mul_le_mul_left _ this
      · rw [(CB_mul _).1]; exact hcap
      · rw [(CB_mul _).2]; omega

theorem Sit.alias (hS : Sit F w0 lim E h nx w) {id b nx1 : Nat} {o1 o2 : AO} {o' : Obj} {E1 : Env} {w1 : World} (hle : E.le E1) (hρ : ∀ i, E1.ρ i = if i = nx then some b else E.ρ i) (hκ : ∀ i, nx1 ≤ i → E1.κ i = E.κ i) (hnx : nx < nx1) (hlim : nx < lim)
    (hg : h.get id = some o1) (hb : E.ρ id = some b) (ho : ObjR E1 o2 o') (hw1 : w1.heap[b]? = some o') (hsame : ∀ k, k ≠ b → w1.heap[k]? = w.heap[k]?) (hsz : w1.heap.size = w.heap.size)
    (hos : w1.os = w.os) (htape : w1.tape = w.tape) (hout : w1.output = w.output) : Sit F w0 lim E1 ((h.del id).set nx o2) nx1 w1 := by
  have hne : ∀ j oo, h.get j = some oo → j ≠ nx := by
    intro j oo hgj e
    subst e
    obtain ⟨b', o'', h1, _, _⟩ := hS.hr j oo hgj
    rw [(hS.fresh j (Nat.le_refl _) hlim).1] at h1; cases h1
  have hd : ∀ j oj, ((h.del id).set nx o2).get j = some oj → (j = nx ∧ oj = o2) ∨ (j ≠ nx ∧ j ≠ id ∧ h.get j = some oj) := by
    intro j oj hj
    rw [Tr.get_set] at hj
    split at hj
    · rename_i e; cases hj; exact .inl ⟨e, rfl⟩
    · rename_i e
      rw [Tr.get_del] at hj
      split at hj
      · cases hj
      · rename_i e2; exact .inr ⟨e, e2, hj⟩
  have hother : ∀ j oj c, j ≠ id → h.get j = some oj → E.ρ j = some c → c ≠ b := fun j oj c hji hgj hc e => hji (hS.inj j id oj o1 c hgj hg hc (by rw [e]; exact hb))
  refine ⟨fun j oj hj => ?_, fun i j oi oj c hi hj p q => ?_, hos.trans hS.os, htape.trans hS.tape, hout.trans hS.output, fun k hk => ?_, fun j oj c hj hc => ?_, fun j p q => ?_, hS.gr⟩
  · rcases hd j oj hj with ⟨rfl, rfl⟩ | ⟨h1, h2, h3⟩
    · exact ⟨b, o', by rw [hρ, if_pos rfl], hw1, ho⟩
    · obtain ⟨c, oo, q1, q2, q3⟩ := hS.hr j oj h3
      exact ⟨c, oo, by rw [hρ, if_neg h1]; exact q1, (hsame c (hother j oj c h2 h3 q1)).trans q2, q3.mono hle⟩
  · rw [hρ] at p q
    rcases hd i oi hi with ⟨rfl, rfl⟩ | ⟨h1, h2, h3⟩
    · rcases hd j oj hj with ⟨rfl, rfl⟩ | ⟨g1, g2, g3⟩
      · rfl
      · rw [if_pos rfl] at p; rw [if_neg g1] at q; cases p
        exact absurd rfl (hother j oj _ g2 g3 q)
    · rcases hd j oj hj with ⟨rfl, rfl⟩ | ⟨g1, g2, g3⟩
      · rw [if_pos rfl] at q; rw [if_neg h1] at p; cases q
        exact absurd rfl (hother i oi _ h2 h3 p)
      · rw [if_neg h1] at p; rw [if_neg g1] at q
        exact hS.inj i j oi oj c h3 g3 p q
  · obtain ⟨q1, q2⟩ := hS.keeps k hk
    have : k ≠ b := fun e => hS.away id o1 b hg hb (by rw [← e]; exact hk)
    exact ⟨by rw [hsz]; exact q1, (hsame k this).trans q2⟩
  · rw [hρ] at hc
    rcases hd j oj hj with ⟨rfl, rfl⟩ | ⟨h1, h2, h3⟩
    · rw [if_pos rfl] at hc; cases hc
      exact hS.away id o1 _ hg hb
    · rw [if_neg h1] at hc
      exact hS.away j oj c h3 hc
  · obtain ⟨q1, q2⟩ := hS.fresh j (by omega) q
    exact ⟨by rw [hρ, if_neg (by omega)]; exact q1, by rw [hκ j p]; exact q2⟩

theorem append_arith {len n bytes need : Nat} (hneed : need = len + n) (h : (2 * (len + n) + 1000) * (bytes + 1) ≤ 281474976710656) (cap : Nat) (hc : cap < need) :
    ((need : Nat) : Int) ≤ 9223372036854775807 ∧ need < 9223372036854775808 ∧ Builtin.nextslicecap need cap * bytes ≤ 281474976710656 := by
  have h1 : (2 * (len + n) + 1000) * 1 ≤ (2 * (len + n) + 1000) * (bytes + 1) := Nat.mul_le_mul_left _ (by omega)
  have h2 : (2 * (len + n) + 1000) * bytes ≤ (2 * (len + n) + 1000) * (bytes + 1) := Nat.mul_le_mul_left _ (by omega)
  refine ⟨by omega, by omega, growslice_fits_wide hc (Nat.le_trans (Nat.mul_le_mul_right bytes ?_) (Nat.le_trans h2 h))⟩
  omega

theorem appendA_sound (hti : ∀ t ti, L.ti.get t = some ti → TIok P t ti) (hS : Sit F w0 lim E h nx w) {ts : Array TypeId} {ty : TypeId} {s s' x x' : Value} {r : R} (hsr : VR E s s') (hxr : VR E x x') (he : appendA L h nx ts.toList s x = some r) :
    RR P F w0 lim E nx w r (do pure (.value (← Builtin.append_ ts ty #[s', x']))) := by
  obtain ⟨tl⟩ := ts
  unfold appendA at he
  split at he
  · rename_i t t2 rest hts
    simp only at hts
    subst hts
    split at he
    · rename_i ti t2i base len cap ht ht2
      have T := hti _ _ ht
      have T2 := hti _ _ ht2
      have hde := T.desc
      split at he
      · rename_i elem hd
        rw [hd] at hde
        split at he
        · rename_i ei hei
          have Te := hti _ _ hei
          split at he
          · rename_i n new hsrc
            cases hc : (Nat.ble ((2 * (len + n) + 1000) * (ei.bytes + 1)) 281474976710656 && Nat.beq new.length (n * ei.size)) with
            | false => rw [hc] at he; cases he
            | true =>
              rw [hc] at he
              simp only [cond_true] at he
              rw [Bool.and_eq_true] at hc
              have hbig := Nat.le_of_ble_eq_true hc.1
              have hnl : new.length = n * ei.size := Nat.eq_of_beq_eq_true hc.2
              obtain ⟨new', hln, hok⟩ := srcA_sound hti hS.hr Te T2 hxr hsrc hnl
              obtain ⟨i, hi, his, hiby, hiz⟩ := Te.info
              rw [← his] at hok
              -- only the first two types count
              have hts2 : ∀ a b : Value, Builtin.append_ ⟨t :: t2 :: rest⟩ ty #[a, b] = Builtin.append_ #[t, t2] ty #[a, b] := fun a b => rfl
              rw [hts2]
              -- anew
              have GROW : ∀ {hh : Tr AO} {bs : Option Addr} {c' : Nat} {olds' old : List Value} {r : R}, Sit F w0 lim E hh nx w → c' < len + n → LR E old olds' →
                  (∀ w2 : World, w2.heap = w.heap → (Builtin.firstCells ei.size len (.slice bs len c')).run P w2 = .ok olds'.toArray w2) → appendNew hh nx elem ei.size (len + n) (old ++ new) = some r →
                  RR P F w0 lim E nx w r (do pure (.value (← Builtin.append_ #[t, t2] ty #[.slice bs len c', x']))) := by
                intro hh bs c' olds' old r hS2 hlt hlo hrun hap
                obtain ⟨a1, a2, a3⟩ := append_arith rfl hbig c' hlt
                have hg := run_append_grow_ok (ty := ty) hde hi hiz hok hlt (base := bs) (olds := olds') (by rw [his]; exact hrun w.drew rfl) a1 (by rw [hiby]; exact a3)
                have hge := grown_ge w (len + n) c' elem a2
                exact appendNew_sound hS2 (hlo.append hln) hge (by simp [Builtin.zeroCells, Te.zsize]) hg hap
              cases hcap : Nat.blt cap CB with
              | true =>
                rw [hcap] at he
                simp only [cond_true] at he
                have hcl := blt_lt hcap
                cases hroom : Nat.ble (len + n) cap with
                | true =>
                  rw [hroom] at he
                  simp only [cond_true] at he
                  have hle := Nat.le_of_ble_eq_true hroom
                  unfold appendRoom at he
                  cases base with
                  | some a =>
                    obtain ⟨b, off, sp⟩ := a
                    cases sp with
                    | some z => cases he
                    | none =>
                      simp only at he
                      cases hst : storeL h b (off + len * ei.size) new (n * ei.size) with
                      | none => rw [hst] at he; cases he
                      | some h' =>
                        rw [hst] at he
                        cases he
                        cases hsr with
                        | slice ad cp =>
                          rename_i a2 c2
                          obtain ⟨b2, o2, s2⟩ := a2
                          have ad0 := ad
                          obtain ⟨hb1, ho, hsp⟩ := ad
                          simp only at hb1 ho hsp
                          subst ho hsp
                          have hc2 : c2 = cap := by rcases cp with ⟨_, e⟩ | ⟨e, _⟩; exact e; omega
                          subst hc2
                          obtain ⟨q1, q2, q3⟩ := hS.stored hb1 hln hnl hst
                          have hrun := run_storeCells_cells (P := P) b2 (o2 + len * ei.size) new' 0 w (fun j hj => by simpa using (q2 j hj).1) (fun j hj => by simpa using (q2 j hj).2) q3
                          simp only [Nat.add_zero] at hrun
                          have hm := run_append_room_ok (ty := ty) hde hi hok (base := some ⟨b2, o2, none⟩) hle (w1 := w.setCells b2 (o2 + len * ei.size) new') (fun a ha => by cases ha; rw [addr_add, his]; exact hrun) (fun hn => by cases hn)
                          exact RR.turn q1 (run_v hm) (.inl rfl) (.slice ad0 (.inl ⟨hcl, rfl⟩))
                  | none =>
                    simp only at he
                    cases hn : Nat.beq n 0 with
                    | false => rw [hn] at he; cases he
                    | true =>
                      rw [hn] at he
                      cases he
                      have : n = 0 := Nat.eq_of_beq_eq_true hn
                      subst this
                      cases hsr
                      have hm := run_append_room_ok (ty := ty) hde hi hok (base := none) hle (w1 := w) (fun a ha => by cases ha) (fun _ => rfl)
                      exact RR.turn hS (run_v hm) (.inl rfl) (.nilSlice _ _)
                | false =>
                  rw [hroom] at he
                  simp only [cond_false] at he
                  have hlt : cap < len + n := by
                    rcases Nat.lt_or_ge cap (len + n) with h1 | h1
                    · exact h1
                    · rw [Nat.ble_eq_true_of_le h1] at hroom; cases hroom
                  unfold appendGrow at he
                  split at he
                  · rename_i old hold
                    obtain ⟨olds', h1, h2, h3⟩ := firstA_sound (P := P) hS.hr hsr hold
                    cases hsr with
                    | nilSlice => exact GROW hS hlt h1 h2 he
                    | slice ad cp =>
                      rename_i a2 c2
                      have hc2 : c2 = cap := by rcases cp with ⟨_, e⟩ | ⟨e, _⟩; exact e; omega
                      subst hc2
                      exact GROW hS hlt h1 h2 he
                  · cases he
              | false =>
                rw [hcap] at he
                simp only [cond_false] at he
                have hcge : CB ≤ cap := by
                  rcases Nat.lt_or_ge cap CB with h1 | h1
                  · rw [blt_true h1] at hcap; cases hcap
                  · exact h1
                unfold appendEither at he
                split at he
                · rename_i b
                  split at he
                  · rename_i c z zs k j es e hg
                    cases hcc : (Nat.beq (CB * j) cap && Nat.beq es ei.size && Nat.beq e elem && Nat.ble (len * ei.size) k) with
                    | false => rw [hcc] at he; cases he
                    | true =>
                      rw [hcc] at he
                      simp only [cond_true] at he
                      simp only [Bool.and_eq_true] at hcc
                      have e1 : CB * j = cap := Nat.eq_of_beq_eq_true hcc.1.1.1
                      have e2 : es = ei.size := Nat.eq_of_beq_eq_true hcc.1.1.2
                      have e3 : e = elem := Nat.eq_of_beq_eq_true hcc.1.2
                      have e4 := Nat.le_of_ble_eq_true hcc.2
                      subst e2 e3
                      split at he
                      · rename_i old hold
                        cases hsr with
                        | slice ad cp =>
                          rename_i a2 c2
                          obtain ⟨b2, o2, s2⟩ := a2
                          obtain ⟨hb1, ho, hsp⟩ := ad
                          simp only at hb1 ho hsp
                          subst ho hsp
                          have hb2 : E.ρ b = some b2 := hb1
                          obtain ⟨c', hw, hcr, hsz⟩ := hS.hr.at hg hb2
                          have hc2 : c'.size = c2 * ei.size ∧ c2 < CB := by
                            obtain ⟨kk, hk1, hk2⟩ := hsz
                            rcases cp with ⟨hx1, _⟩ | ⟨_, _, k2, hk3, hk4, hk5⟩
                            · omega
                            · rw [← e1, (CB_mul j).1] at hk3
                              rw [hk1] at hk3; cases hk3
                              rw [← e1, (CB_mul j).2] at hk4
                              exact ⟨by rw [hk2, ← hk4]; rfl, by omega⟩
                          obtain ⟨olds', hlen, hlr, hat⟩ := readN_spec hcr _ _ _ hold
                          simp only [Nat.zero_add] at hat
                          have hlen' : olds'.length = len * ei.size := by rw [← hlr.1, hlen]
                          rcases Nat.lt_or_ge c2 (len + n) with hlt | hroom
                          · refine GROW (hS.drop b) hlt hlr (fun w2 hw2 => ?_) he
                            refine run_firstCells_some w2 ei.size len ⟨b2, 0, none⟩ len c2 olds' hlen' fun q v hv => ?_
                            rw [addr_add]
                            have : w2.heap[b2]? = some (.cells c' e (0, 0)) := by rw [hw2]; exact hw
                            simp [World.cell?, this, hat q v hv]
                          · -- there is room
                            unfold appendNew at he
                            cases hfl : ((old ++ new).all flat && Nat.beq (old ++ new).length ((len + n) * ei.size)) with
                            | false => rw [hfl] at he; cases he
                            | true =>
                              rw [hfl] at he
                              cases he
                              rw [Bool.and_eq_true] at hfl
                              refine ⟨by omega, fun hlim => ?_⟩
                              have hx := put2_ext hS (by omega) b2 c2
                              have hcap2 : ((E.put nx b2).putK (nx + 1) c2).κ (nx + 1) = some c2 := Env.putK_κ _ _ _
                              have hmul : (len + n) * ei.size ≤ c2 * ei.size := Nat.mul_le_mul_right _ hroom
                              have hsum : len * ei.size + n * ei.size = (len + n) * ei.size := by rw [Nat.add_mul]
                              have hnl' : new'.length = n * ei.size := by rw [← hln.1, hnl]
                              have hone : ∀ v ∈ new', v.oneCell' = true := by
                                intro v hv
                                obtain ⟨q, hq1, hq2⟩ := List.getElem_of_mem hv
                                have hql : q < new.length := by have := hln.1; omega
                                refine flat_one (hln.2 q new[q] v (by simp) (by simp [← hq2])) ?_
                                have := List.all_eq_true.1 hfl.1 new[q] (by simp)
                                exact this
                              have hthere : ∀ q, q < new'.length → (w.cell? ⟨b2, len * ei.size + q, none⟩).isSome = true ∧ w.frozen? ⟨b2, len * ei.size + q, none⟩ = false := by
                                intro q hq
                                have : len * ei.size + q < c'.size := by omega
                                exact ⟨by simp [World.cell?, hw, this], by simp [World.frozen?, hw]⟩
                              have hrun := run_storeCells_cells (P := P) b2 (len * ei.size) new' 0 w (fun q hq => by simpa using (hthere q hq).1) (fun q hq => by simpa using (hthere q hq).2) hone
                              simp only [Nat.add_zero] at hrun
                              have hm := run_append_room_ok (ty := ty) hde hi hok (base := some ⟨b2, 0, none⟩) hroom (w1 := w.setCells b2 (len * ei.size) new') (fun a ha => by cases ha; rw [addr_add, his, Nat.zero_add]; exact hrun) (fun hn => by cases hn)
                              obtain ⟨p, q, rr, s1, t1, u1⟩ := setCells_heap b2 new' (len * ei.size) w c' e (0, 0) hw
                              refine ⟨(E.put nx b2).putK (nx + 1) c2, w.setCells b2 (len * ei.size) new', _, _, run_v hm, .inl rfl, hx, ?_, ?_⟩
                              · refine hS.alias hx.1 (fun _ => rfl) (fun i hi => by show (if i = nx + 1 then some c2 else E.κ i) = _; rw [if_neg (by omega)]) (by omega) (by omega) hg hb2 ?_ p q rr s1 t1 u1
                                have hll := (hlr.append hln).mono hx.1
                                refine .cells (list_cells hll _ (by rw [setAll_size]; simp; omega) (fun q2 hq2 => ?_) (Nat.eq_of_beq_eq_true hfl.2)) (SizeR.sym hcap2 (by rw [setAll_size]; exact hc2.1))
                                rw [setAll_get _ _ _ _ (by omega)]
                                simp only [List.length_append] at hq2
                                split
                                · rename_i hin
                                  rw [List.getElem?_append_right (by omega), hlen']
                                · rename_i hin
                                  have hq3 : q2 < olds'.length := by omega
                                  rw [List.getElem?_append_left hq3, List.getElem?_eq_getElem hq3]
                                  exact hat q2 _ (by rw [List.getElem?_eq_getElem hq3])
                              · refine .slice ⟨Env.put_ρ _ _ _, rfl, rfl⟩ (.inr ⟨?_, hroom, c2, ?_, ?_, hc2.2⟩)
                                · have : 1 ≤ nx + 1 := by omega
                                  calc CB = CB * 1 := by omega
                                    _ ≤ CB * (nx + 1) := Nat.mul_le_mul_left _ this
                                · rw [(CB_mul _).1]; exact hcap2
                                · rw [(CB_mul _).2]; omega
                      · cases he
                  · cases he
                · cases he
          · cases he
        · cases he
      · cases he
    · cases he
  · cases he
end
end Go.Proofs.Ex

namespace Go.Proofs.Ex
variable [Sg]
section
variable {P : Program} {L : Lk} {F : Nat → Prop} {w0 : World} {lim : Nat} {E : Env} {tm : Tr Value} {h : Tr AO} {nx : Nat} {w : World} {ρ : Operand → Value}

theorem flatT_get : ∀ (t : Tr Value) (i : Nat) (v : Value), t.flatT = true → t.get i = some v → flat v = true := by
  intro t
  induction t with
  | nil => intro i v _ h; cases h
  | node l x r ihl ihr =>
    intro i v hf hg
    simp only [Tr.flatT, Bool.and_eq_true] at hf
    rw [Tr.get_node] at hg
    split at hg
    · subst hg; exact hf.1.1
    · split at hg
      · exact ihl _ _ hf.1.2 hg
      · exact ihr _ _ hf.2 hg

theorem run_copy_of {ts : Array TypeId} {ty t elem : TypeId} {ei : TI} (ht : ts[0]? = some t) (hde : P.underlying t = some (.slice elem)) (Te : TIok P elem ei) {base : Option Addr} {dl dc sl : Nat} {s' : Value} {new' : List Value} {w1 : World}
    (hlen : (Builtin.lenOf s').run P w = .ok sl w) (hf : (Builtin.firstCells ei.size (Nat.min sl dl) s').run P w = .ok new'.toArray w)
    (hst : ∀ a, base = some a → (storeCells a new').run P w = .ok () w1) (hno : base = none → w1 = w) :
    (Builtin.copy_ ts ty #[.slice base dl dc, s']).run P w = .ok (.int .i64 (Nat.min sl dl : Nat)) w1 := by
  unfold Builtin.copy_
  have h0 : (#[Value.slice base dl dc, s'] : Array Value)[0]? = some (.slice base dl dc) := rfl
  have h1 : (#[Value.slice base dl dc, s'] : Array Value)[1]? = some s' := rfl
  rw [ht, h0, h1]
  cases base with
  | none =>
    rw [hno rfl]
    simp only [Sem.run_bind, run_underlying hde, Result.andThen_ok, hlen, Te.size w, hf, Sem.run_pure, goInt]
  | some a =>
    have := hst a rfl
    simp only [Sem.run_bind, run_underlying hde, Result.andThen_ok, hlen, Te.size w, hf, Sem.run_pure, goInt, this]

theorem lenA_sound {x x' : Value} {n : Nat} (hx : VR E x x') (he : lenA x = some n) : (Builtin.lenOf x').run P w = .ok n w := by
  unfold lenA at he
  split at he
  · cases he; cases hx <;> rfl
  · cases he; rw [hx.string_inv]; rfl
  · cases he

theorem copyCells_sound (hS : Sit F w0 lim E h nx w) {ts : Array TypeId} {ty t elem : TypeId} {ei : TI} (ht : ts[0]? = some t) (hde : P.underlying t = some (.slice elem)) (Te : TIok P elem ei) {id b off dl dc sl : Nat} {s s' : Value} {r : R}
    (hb : E.ρ id = some b) (hs : VR E s s') (hlen : (Builtin.lenOf s').run P w = .ok sl w) (he : copyCells h nx ei.size (Nat.min sl dl) id off s = some r) :
    RR P F w0 lim E nx w r (do pure (.value (← Builtin.copy_ ts ty #[.slice (some ⟨b, off, none⟩) dl dc, s']))) := by
  unfold copyCells at he
  split at he
  · rename_i new hnew
    cases hc : Nat.beq new.length (Nat.min sl dl * ei.size) with
    | false => rw [hc] at he; cases he
    | true =>
      rw [hc] at he
      simp only [cond_true] at he
      have hnl : new.length = Nat.min sl dl * ei.size := Nat.eq_of_beq_eq_true hc
      split at he
      · rename_i h' hst
        cases he
        obtain ⟨new', h1, h2, _⟩ := firstA_sound (P := P) hS.hr hs hnew
        obtain ⟨q1, q2, q3⟩ := hS.stored hb h1 hnl hst
        have hrun := run_storeCells_cells (P := P) b off new' 0 w (fun j hj => by simpa using (q2 j hj).1) (fun j hj => by simpa using (q2 j hj).2) q3
        simp only [Nat.add_zero] at hrun
        exact RR.turn q1 (run_v (run_copy_of ht hde Te hlen (h2 w rfl) (fun a ha => by cases ha; exact hrun) (fun hn => by cases hn))) (.inl rfl) (.int _ _)
      · cases he
  · cases he

theorem copyLong_sound (hS : Sit F w0 lim E h nx w) {ts : Array TypeId} {ty t elem : TypeId} {ei : TI} (ht0 : ts[0]? = some t) (hde : P.underlying t = some (.slice elem)) (Te : TIok P elem ei) {b j sb : Nat} {d' s' : Value} {r : R}
    (hdr : VR E (.complex .f32 b j) d') (hsr : VR E (.complex .f32 sb j) s') (he : copyLong h nx ei.size b j sb = some r) :
    RR P F w0 lim E nx w r (do pure (.value (← Builtin.copy_ ts ty #[d', s']))) := by
  unfold copyLong at he
  split at he
  · rename_i c z zs es k e1 c3 z3 zs3 es' k' e hg1 hg2
    cases hcc : (Nat.beq es ei.size && Nat.beq es' ei.size && Nat.beq k j && Nat.beq k' j && Nat.blt 0 zs && Nat.beq z.length zs && z.all flat && c.flatT) with
    | false => rw [hcc] at he; cases he
    | true =>
      rw [hcc] at he
      simp only [cond_true] at he
      cases he
      simp only [Bool.and_eq_true] at hcc
      obtain ⟨⟨⟨⟨⟨⟨⟨a1, a2⟩, a3⟩, a3'⟩, a4⟩, a5⟩, a6⟩, a7⟩ := hcc
      have k1 := Nat.eq_of_beq_eq_true a1
      have k2 := Nat.eq_of_beq_eq_true a2
      have k3 := Nat.eq_of_beq_eq_true a3
      have k4 := Nat.eq_of_beq_eq_true a3'
      subst k1 k3
      subst k2
      have k5 : k' = k := k4
      subst k5
      have hzs := blt_lt a4
      have hzl : z.length = zs := Nat.eq_of_beq_eq_true a5
      cases hsr with
      | long shb l2 l3 l4 =>
        rename_i sb2 N
        cases hdr with
        | long hdb m2 m3 m4 =>
          rename_i b2 N2
          have hNN : N2 = N := by rw [l2] at m2; cases m2; rfl
          subst hNN
          obtain ⟨cs', N3, hws, n3, _, hcs, _⟩ := hS.hr.atLong hg1 shb
          have hNN : N3 = N2 := by rw [l2] at n3; cases n3; rfl
          subst hNN
          obtain ⟨cd', N4, hwd, n4, hN4, hcd, hsd⟩ := hS.hr.atLong hg2 hdb
          have hNN : N4 = N3 := by rw [l2] at n4; cases n4; rfl
          subst hNN
          generalize hk : N4 * ei.size = kk at hcs hcd hsd
          have hat : ∀ i, i < kk → ∃ v v', cellAt c z zs kk i = some v ∧ cs'[i]? = some v' ∧ VR E v v' ∧ v'.oneCell' = true := by
            intro i hi
            have hex : ∃ v, cellAt c z zs kk i = some v ∧ flat v = true := by
              unfold cellAt
              rw [blt_true hi]
              simp only [cond_true]
              cases hgi : c.get i with
              | some v => exact ⟨v, rfl, flatT_get c i v a7 hgi⟩
              | none =>
                have : i % zs < z.length := by rw [hzl]; exact Nat.mod_lt _ hzs
                exact ⟨z[i % zs], by simp [this], List.all_eq_true.1 a6 _ (by simp)⟩
            obtain ⟨v, hv, hfl⟩ := hex
            obtain ⟨v', h1, h2⟩ := hcs.2 i v hv
            exact ⟨v, v', hv, h1, h2, flat_one h2 hfl⟩
          have hks : kk ≤ cs'.size := hcs.1
          have hkd : kk ≤ cd'.size := hcd.1
          let new' := cs'.toList.take kk
          have hnl : new'.length = kk := by simp [new']; omega
          have hng : ∀ i, i < kk → new'[i]? = cs'[i]? := fun i hi => by simp [new', List.getElem?_take, hi]
          have hf : (Builtin.firstCells ei.size (Nat.min N4 N4) (.slice (some ⟨sb2, 0, none⟩) N4 N4)).run P w = .ok new'.toArray w := by
            refine run_firstCells_some w ei.size _ ⟨sb2, 0, none⟩ N4 N4 new' (by rw [hnl, ← hk]; simp) fun j v hv => ?_
            rw [addr_add]
            have hj : j < kk := by rw [← hnl]; exact (List.getElem?_eq_some_iff.1 hv).1
            rw [hng j hj] at hv
            simp [World.cell?, hws, hv]
          have hone : ∀ v ∈ new', v.oneCell' = true := by
            intro v hv
            obtain ⟨i, hi1, hi2⟩ := List.getElem_of_mem hv
            have hik : i < kk := by rw [← hnl]; exact hi1
            obtain ⟨_, v', _, h2, _, h4⟩ := hat i hik
            have : new'[i]? = some v := by rw [List.getElem?_eq_getElem hi1, hi2]
            rw [hng i hik, h2] at this; cases this
            exact h4
          have hthere : ∀ j : Nat, j < new'.length → (w.cell? ⟨b2, 0 + 0 + j, none⟩).isSome = true := by
            intro j hj
            have : j < cd'.size := by omega
            simp [World.cell?, hwd, this]
          have hrun := run_storeCells_cells (P := P) b2 0 new' 0 w hthere (fun j hj => by simp [World.frozen?, hwd]) hone
          simp only [Nat.add_zero] at hrun
          obtain ⟨p, q, rr, s1, t1, u1⟩ := setCells_heap b2 new' 0 w cd' e (0, 0) hwd
          have hm := run_copy_of (ty := ty) (dc := N4) (s' := .slice (some ⟨sb2, 0, none⟩) N4 N4) ht0 hde Te (base := some ⟨b2, 0, none⟩) (dl := N4) (sl := N4) rfl hf (w1 := w.setCells b2 0 new') (fun a ha => by cases ha; exact hrun) (fun hn => by cases hn)
          have hmm : Nat.min N4 N4 = N4 := Nat.min_self N4
          rw [hmm] at hm
          refine RR.turn (hS.turn (fun j oj hj => ?_) (fun j oj hj => ?_) (fun kk hk => q kk fun ee => hk b _ hg2 (by rw [ee]; exact hdb)) (Nat.le_of_eq rr.symm) s1 t1 u1) (run_v hm) (.inl rfl) (.atom l2 rfl)
          · rw [Tr.get_set] at hj
            by_cases hji : j = b
            · subst hji
              rw [if_pos rfl] at hj; cases hj
              refine ⟨b2, _, hdb, p, .long l2 l3 ⟨by rw [setAll_size, hk]; exact hkd, fun i v hv => ?_⟩ (by rw [setAll_size, hk]; exact hsd)⟩
              rw [hk] at hv
              have hik : i < kk := by
                unfold cellAt at hv
                cases hbl : Nat.blt i kk with
                | true => exact blt_lt hbl
                | false => rw [hbl] at hv; cases hv
              obtain ⟨v1, v', h1, h2, h3, _⟩ := hat i hik
              rw [h1] at hv; cases hv
              exact ⟨v', by rw [setAll_get _ _ _ _ (by omega), if_pos (by omega), Nat.sub_zero, hng i hik]; exact h2, h3⟩
            · rw [if_neg hji] at hj
              obtain ⟨bb, oo, h1, h2, h3⟩ := hS.hr j oj hj
              exact ⟨bb, oo, h1, (q bb fun ee => hji (hS.inj j b oj _ bb hj hg2 h1 (by rw [ee]; exact hdb))).trans h2, h3⟩
          · rw [Tr.get_set] at hj
            by_cases hji : j = b
            · subst hji; exact ⟨_, hg2⟩
            · rw [if_neg hji] at hj; exact ⟨_, hj⟩
  · cases he

theorem copyA_sound (hti : ∀ t ti, L.ti.get t = some ti → TIok P t ti) (hS : Sit F w0 lim E h nx w) {ts : Array TypeId} {ty : TypeId} {d d' s s' : Value} {r : R} (hdr : VR E d d') (hsr : VR E s s') (he : copyA L h nx ts.toList d s = some r) :
    RR P F w0 lim E nx w r (do pure (.value (← Builtin.copy_ ts ty #[d', s']))) := by
  obtain ⟨tl⟩ := ts
  unfold copyA at he
  split at he
  · rename_i b jj sb kk
    split at he
    · rename_i t rest hts
      simp only at hts
      subst hts
      split at he
      · rename_i ti ht
        have hde := (hti _ _ ht).desc
        split at he
        · rename_i elem hd
          rw [hd] at hde
          split at he
          · rename_i ei hei
            have Te := hti _ _ hei
            have ht0 : (⟨t :: rest⟩ : Array TypeId)[0]? = some t := rfl
            cases hb : Nat.beq jj kk with
            | false => rw [hb] at he; cases he
            | true =>
              rw [hb] at he
              have := Nat.eq_of_beq_eq_true hb
              subst this
              exact copyLong_sound hS ht0 hde Te hdr hsr he
          · cases he
        · cases he
      · cases he
    · cases he
  split at he
  · rename_i t rest hts
    simp only at hts
    subst hts
    split at he
    · rename_i ti base dl dc sl ht hl hside
      have hde := (hti _ _ ht).desc
      have hlen := lenA_sound (P := P) (w := w) hsr hl
      split at he
      · rename_i elem hd
        rw [hd] at hde
        split at he
        · rename_i ei hei
          have Te := hti _ _ hei
          have ht0 : (⟨t :: rest⟩ : Array TypeId)[0]? = some t := rfl
          split at he
          · cases hb : Nat.beq (Nat.min sl dl) 0 with
            | false => rw [hb] at he; cases he
            | true =>
              rw [hb] at he
              cases he
              have h0 : Nat.min sl dl = 0 := Nat.eq_of_beq_eq_true hb
              cases hdr
              have hf : ∃ c : Array Value, (Builtin.firstCells ei.size 0 s').run P w = .ok c w := by
                cases hsr with
                | nilSlice => exact ⟨_, run_firstCells_none w ei.size 0 _ _⟩
                | slice ad cp => exact ⟨_, run_firstCells_some w ei.size 0 _ _ _ [] (by simp) (fun j v hv => by simp at hv)⟩
                | string => exact ⟨_, rfl⟩
                | _ => simp [lenA] at hl
              obtain ⟨c, hf⟩ := hf
              have hf' : (Builtin.firstCells ei.size (Nat.min sl dl) s').run P w = .ok c.toList.toArray w := by rw [h0]; simpa using hf
              have := run_copy_of (ty := ty) (dc := dc) ht0 hde Te (base := none) hlen hf' (w1 := w) (fun a ha => by cases ha) (fun _ => rfl)
              rw [h0] at this
              exact RR.turn hS (run_v this) (.inl rfl) (.int _ _)
          · rename_i b off
            cases hdr with
            | slice ad cp =>
              rename_i a2 c2
              obtain ⟨b2, o2, s2⟩ := a2
              obtain ⟨hb1, ho, hsp⟩ := ad
              simp only at hb1 ho hsp
              subst ho hsp
              unfold copyWhole at he
              split at he
              · rename_i sb sl2 sc2
                split at he
                · rename_i c z zs k cp1 e1 c3 z3 zs3 k' cap e hg1 hg2
                  cases hcc : (Nat.beq o2 0 && Nat.beq k (Nat.min sl dl * ei.size) && Nat.beq k' (Nat.min sl dl * ei.size) && Nat.blt 0 zs && Nat.beq z.length zs && z.all flat && c.flatT) with
                  | false =>
                    rw [hcc] at he
                    exact copyCells_sound hS ht0 hde Te hb1 hsr hlen he
                  | true =>
                    rw [hcc] at he
                    simp only [cond_true] at he
                    cases he
                    simp only [Bool.and_eq_true] at hcc
                    obtain ⟨⟨⟨⟨⟨⟨a1, a2⟩, a3⟩, a4⟩, a5⟩, a6⟩, a7⟩ := hcc
                    have o0 : o2 = 0 := Nat.eq_of_beq_eq_true a1
                    have k1 : k = Nat.min sl dl * ei.size := Nat.eq_of_beq_eq_true a2
                    have k2 : k' = Nat.min sl dl * ei.size := Nat.eq_of_beq_eq_true a3
                    have hzs := blt_lt a4
                    have hzl : z.length = zs := Nat.eq_of_beq_eq_true a5
                    subst o0
                    cases hsr with
                    | slice sad scp =>
                      rename_i sa2 sc3
                      obtain ⟨sb2, so2, ss2⟩ := sa2
                      obtain ⟨shb, sho, shsp⟩ := sad
                      simp only at shb sho shsp
                      subst sho shsp
                      have hdb : E.ρ b = some b2 := hb1
                      obtain ⟨cs', hws, hcs, _⟩ := hS.hr.at hg1 shb
                      obtain ⟨cd', hwd, hcd, hsd⟩ := hS.hr.at hg2 hdb
                      -- every cell that is copied is known, and flat
                      have hat : ∀ i, i < k → ∃ v v', cellAt c z zs k i = some v ∧ cs'[i]? = some v' ∧ VR E v v' ∧ v'.oneCell' = true := by
                        intro i hi
                        have hex : ∃ v, cellAt c z zs k i = some v ∧ flat v = true := by
                          unfold cellAt
                          rw [blt_true hi]
                          simp only [cond_true]
                          cases hgi : c.get i with
                          | some v => exact ⟨v, rfl, flatT_get c i v a7 hgi⟩
                          | none =>
                            have : i % zs < z.length := by rw [hzl]; exact Nat.mod_lt _ hzs
                            exact ⟨z[i % zs], by simp [this], List.all_eq_true.1 a6 _ (by simp)⟩
                        obtain ⟨v, hv, hfl⟩ := hex
                        obtain ⟨v', h1, h2⟩ := hcs.2 i v hv
                        exact ⟨v, v', hv, h1, h2, flat_one h2 hfl⟩
                      have hks : k ≤ cs'.size := hcs.1
                      have hkd : k' ≤ cd'.size := hcd.1
                      let new' := cs'.toList.take k
                      have hnl : new'.length = k := by simp [new']; omega
                      have hng : ∀ i, i < k → new'[i]? = cs'[i]? := fun i hi => by simp [new', List.getElem?_take, hi]
                      have hf : (Builtin.firstCells ei.size (Nat.min sl dl) (.slice (some ⟨sb2, 0, none⟩) sl2 sc3)).run P w = .ok new'.toArray w := by
                        refine run_firstCells_some w ei.size _ ⟨sb2, 0, none⟩ sl2 sc3 new' (by rw [hnl, k1]) fun j v hv => ?_
                        rw [addr_add]
                        have hj : j < k := by rw [← hnl]; exact (List.getElem?_eq_some_iff.1 hv).1
                        rw [hng j hj] at hv
                        simp [World.cell?, hws, hv]
                      have hone : ∀ v ∈ new', v.oneCell' = true := by
                        intro v hv
                        obtain ⟨i, hi1, hi2⟩ := List.getElem_of_mem hv
                        have hik : i < k := by rw [← hnl]; exact hi1
                        obtain ⟨_, v', _, h2, _, h4⟩ := hat i hik
                        have : new'[i]? = some v := by rw [List.getElem?_eq_getElem hi1, hi2]
                        rw [hng i hik, h2] at this; cases this
                        exact h4
                      have hthere : ∀ j : Nat, j < new'.length → (w.cell? ⟨b2, 0 + 0 + j, none⟩).isSome = true := by
                        intro j hj
                        have : j < cd'.size := by omega
                        simp [World.cell?, hwd, this]
                      have hrun := run_storeCells_cells (P := P) b2 0 new' 0 w hthere (fun j hj => by simp [World.frozen?, hwd]) hone
                      simp only [Nat.add_zero] at hrun
                      obtain ⟨p, q, rr, s1, t1, u1⟩ := setCells_heap b2 new' 0 w cd' e (0, 0) hwd
                      have hm := run_copy_of (ty := ty) (dc := c2) ht0 hde Te (base := some ⟨b2, 0, none⟩) hlen hf (w1 := w.setCells b2 0 new') (fun a ha => by cases ha; exact hrun) (fun hn => by cases hn)
                      refine RR.turn (hS.turn (fun j oj hj => ?_) (fun j oj hj => ?_) (fun kk hk => q kk fun ee => hk b _ hg2 (by rw [ee]; exact hdb)) (Nat.le_of_eq rr.symm) s1 t1 u1) (run_v hm) (.inl rfl) (.int _ _)
                      · rw [Tr.get_set] at hj
                        by_cases hji : j = b
                        · subst hji
                          rw [if_pos rfl] at hj; cases hj
                          refine ⟨b2, _, hdb, p, .cells ⟨by rw [setAll_size]; exact hkd, fun i v hv => ?_⟩ (by rw [setAll_size]; exact hsd)⟩
                          have hik' : i < k' := by
                            unfold cellAt at hv
                            cases hbl : Nat.blt i k' with
                            | true => exact blt_lt hbl
                            | false => rw [hbl] at hv; cases hv
                          have hik : i < k := by omega
                          have hkk : k' = k := by omega
                          rw [hkk] at hv
                          obtain ⟨v1, v', h1, h2, h3, _⟩ := hat i hik
                          rw [h1] at hv; cases hv
                          exact ⟨v', by rw [setAll_get _ _ _ _ (by omega), if_pos (by omega), Nat.sub_zero, hng i hik]; exact h2, h3⟩
                        · rw [if_neg hji] at hj
                          obtain ⟨bb, oo, h1, h2, h3⟩ := hS.hr j oj hj
                          exact ⟨bb, oo, h1, (q bb fun ee => hji (hS.inj j b oj _ bb hj hg2 h1 (by rw [ee]; exact hdb))).trans h2, h3⟩
                      · rw [Tr.get_set] at hj
                        by_cases hji : j = b
                        · subst hji; exact ⟨_, hg2⟩
                        · rw [if_neg hji] at hj; exact ⟨_, hj⟩
                · cases he
              · exact copyCells_sound hS ht0 hde Te hb1 hsr hlen he
          · cases he
        · cases he
      · cases he
    · cases he
  · cases he
end
end Go.Proofs.Ex

namespace Go.Proofs.Ex
variable [Sg]
open Go.RowKit

def XrOK (P : Program) (f : FuncId) (args : List Value) (h : Tr AO) (nx : Nat) (v : Value) (h' : Tr AO) (nx' : Nat) : Prop :=
  nx ≤ nx' ∧ ∀ (F : Nat → Prop) (w0 : World) (lim : Nat) (E : Env) (w : World) (args' : Array Value) (c : Frame) (cs : List Frame), nx' ≤ lim → Sit F w0 lim E h nx w → LR E args args'.toList →
      ∃ E' w' v', Ext E E' nx nx' ∧ Steps P (lone (Frame.enter P f args' .normal) (c :: cs) w) (lone (c.finish v') cs w') ∧ Sit F w0 lim E' h' nx' w' ∧ VR E' v v'

structure LkOK (P : Program) (L : Lk) : Prop where
  ti : ∀ t ti, L.ti.get t = some ti → TIok P t ti
  fs : ∀ f fn, L.fs.get f = some fn → P.funcs[f]? = some fn
  call : ∀ f fn c, L.fs.get f = some fn → fn.body = some c → ∀ args w, (callFunc f args).run P w = .ok (.enter f args) w
  ext : ∀ f args v, L.ext f args = some v → ∀ (E : Env) (args' : List Value), LR E args args' → ∃ v', VR E v v' ∧ ∀ w, (callFunc f args'.toArray).run P w = .ok (.value v') w
  orc : ∀ f args h v, L.orc f args h = some v → ∀ (E : Env) (w : World) (args' : List Value) (F : Nat → Prop), Sg.G F w → HR E h w → LR E args args' →
    Calls P f args'.toArray w fun e w' => ∃ v', e = .returned v' ∧ VR E v v' ∧ Below w.heap.size w w'
  orx : ∀ f args h nx v h' nx', L.orx f args h nx = some (v, h', nx') → XrOK P f args h nx v h' nx'
  sbin : ∀ op t a b v, L.sbin op t a b = some v → ∀ (E : Env) (a' b' : Value), VR E a a' → VR E b b' → ∃ v', VR E v v' ∧ ∀ x y w, (do eqGuard op t x y a' b'; binOp op t a' b').run P w = .ok v' w
  sun : ∀ op a v, L.sun op a = some v → ∀ (E : Env) (a' : Value), VR E a a' → ∃ v', VR E v v' ∧ ∀ w, (Op.unary op a').run P w = .ok v' w
  scv : ∀ s d a v, L.scv s d a = some v → ∀ (E : Env) (a' : Value), VR E a a' → ∃ v', VR E v v' ∧ ∀ w, (convert s d a').run P w = .ok v' w
  wide : ∀ j, L.wide j = true → ∃ N : Nat, Sg.σ j = some (.int .i64 (N : Int)) ∧ 24 ≤ N ∧ N ≤ 256
  smx : ∀ mx ts l v, L.smx mx ts l = some v → ∀ (E : Env) (l' : List Value), LR E l l' → ∃ v', VR E v v' ∧ ∀ w, (cond mx (Builtin.max_ ts.toArray 0 l'.toArray) (Builtin.min_ ts.toArray 0 l'.toArray)).run P w = .ok v' w

section
variable {P : Program} {L : Lk} {F : Nat → Prop} {w0 : World} {lim : Nat} {E : Env} {tm : Tr Value} {h : Tr AO} {nx : Nat} {w : World} {ρ : Operand → Value}

theorem lenOfA_sound (hti : ∀ t ti, L.ti.get t = some ti → TIok P t ti) (hS : Sit F w0 lim E h nx w) {ts : Array TypeId} {ty : TypeId} {x x' v : Value} (hx : VR E x x') (he : lenOfA L h ts.toList x = some v) :
    ∃ v', (Builtin.len_ ts ty #[x']).run P w = .ok v' w ∧ VR E v v' := by
  obtain ⟨tl⟩ := ts
  unfold lenOfA at he
  split at he
  · rename_i t rest hts
    simp only at hts
    subst hts
    split at he
    · rename_i ti ht
      have hde := (hti _ _ ht).desc
      have h0 : (⟨t :: rest⟩ : Array TypeId)[0]? = some t := rfl
      have h1 : ∀ y : Value, (#[y] : Array Value)[0]? = some y := fun y => rfl
      split at he
      · rename_i s hd
        rw [hd] at hde
        cases he
        rw [hx.string_inv]
        exact ⟨_, by simp [Builtin.len_, h0, run_underlying hde, goInt], .int _ _⟩
      · rename_i n e hd
        rw [hd] at hde
        cases he
        exact ⟨.int .i64 n, by simp [Builtin.len_, h0, run_underlying hde, goInt], .int _ _⟩
      · rename_i a hd
        rw [hd] at hde
        split at he
        · rename_i ai hai
          have hade := (hti _ _ hai).desc
          split at he
          · rename_i n e hda
            rw [hda] at hade
            cases he
            refine ⟨.int .i64 n, ?_, .int _ _⟩
            simp [Builtin.len_, h0, run_underlying hde, run_underlying hade, goInt]
          · cases he
        · cases he
      · rename_i e a n c hd
        rw [hd] at hde
        cases he
        cases hx <;> exact ⟨_, by simp [Builtin.len_, h0, run_underlying hde, goInt], .int _ _⟩
      · rename_i e b jj hd
        rw [hd] at hde
        cases he
        cases hx with
        | long l1 l2 l3 l4 =>
          rename_i b' N
          exact ⟨.int .i64 N, by simp [Builtin.len_, h0, run_underlying hde, goInt], .atom l2 rfl⟩
      · rename_i k e hd
        rw [hd] at hde
        cases he
        cases hx
        exact ⟨.int .i64 0, by simp [Builtin.len_, h0, run_underlying hde, goInt], .int _ _⟩
      · rename_i k e r hd
        rw [hd] at hde
        split at he
        · rename_i es ck hg
          cases he
          cases hx with
          | map hb =>
            obtain ⟨es', hw, hel⟩ := hS.hr.map hg hb
            refine ⟨.int .i64 es.length, ?_, .int _ _⟩
            have hsz : es'.size = es.length := by simpa using hel.1.symm
            simp [Builtin.len_, h0, run_underlying hde, run_getObj_map (P := P) hw, goInt, hsz]
        · cases he
      · cases he
    · cases he
  · cases he

theorem capA_sound (hti : ∀ t ti, L.ti.get t = some ti → TIok P t ti) {ts : Array TypeId} {ty : TypeId} {x x' v : Value} (hx : VR E x x') (he : capA L ts.toList x = some v) :
    ∃ v', (Builtin.cap_ ts ty #[x']).run P w = .ok v' w ∧ VR E v v' := by
  obtain ⟨tl⟩ := ts
  unfold capA at he
  split at he
  · rename_i t rest a n c hts
    simp only at hts
    subst hts
    split at he
    · rename_i ti ht
      have hde := (hti _ _ ht).desc
      have h0 : (⟨t :: rest⟩ : Array TypeId)[0]? = some t := rfl
      split at he
      · rename_i e hd
        rw [hd] at hde
        cases hb : Nat.blt c CB with
        | false => rw [hb] at he; cases he
        | true =>
          rw [hb] at he
          cases he
          have hlt := blt_lt hb
          cases hx with
          | nilSlice => exact ⟨.int .i64 c, by simp [Builtin.cap_, h0, run_underlying hde, goInt], .int _ _⟩
          | slice ad cp =>
            rename_i a2 c2
            have hc2 : c2 = c := by rcases cp with ⟨_, e⟩ | ⟨e, _⟩; exact e; omega
            subst hc2
            exact ⟨.int .i64 c2, by simp [Builtin.cap_, h0, run_underlying hde, goInt], .int _ _⟩
      · cases he
    · cases he
  · cases he

theorem foldl_bytes : ∀ (ns : List Int) (s : ByteArray), ns.foldl (fun r n => r.push (UInt8.ofNat n.toNat)) s = ⟨s.data ++ (ns.map fun n => n.toNat.toUInt8).toArray⟩ := by
  intro ns
  induction ns with
  | nil => intro s; simp
  | cons n ns ih =>
    intro s
    rw [List.foldl_cons, ih]
    congr 1
    apply Array.ext'
    show (s.data.push (UInt8.ofNat n.toNat) ++ _).toList = _
    simp

theorem aConv_sound (hti : ∀ t ti, L.ti.get t = some ti → TIok P t ti) (hS : Sit F w0 lim E h nx w) (hρ : ∀ x v, ev tm x = some v → VR E v (ρ x)) {src dst : TypeId} {x : Operand} {r : R} (he : aConv P L tm h nx src dst x = some r) :
    RR P F w0 lim E nx w r (do pure (.value (← convert src dst (ρ x)))) := by
  unfold aConv at he
  split at he
  · rename_i v hv
    have hvr := hρ _ _ hv
    generalize ρ x = x' at hvr
    split at he
    · rename_i a n c
      split at he
      · rename_i si di hsi hdi
        have hs := (hti _ _ hsi).desc
        have hd := (hti _ _ hdi).desc
        split at he
        · rename_i e hsd hdd
          rw [hsd] at hs; rw [hdd] at hd
          split at he
          · rename_i ei l hei hl
            have hee := (hti _ _ hei).desc
            split at he
            · rename_i heu
              rw [heu] at hee
              cases hb : l.all isByte with
              | false => rw [hb] at he; cases he
              | true =>
                rw [hb] at he
                simp only [cond_true] at he
                cases he
                obtain ⟨l', h1, h2, h3⟩ := firstA_sound (P := P) hS.hr hvr hl
                have hcl : allClosed l = true := by
                  clear h1 h2 h3 hl
                  induction l with
                  | nil => rfl
                  | cons u l ih =>
                    simp only [List.all_cons, Bool.and_eq_true] at hb
                    simp only [allClosed, Bool.and_eq_true]
                    refine ⟨?_, ih hb.2⟩
                    have := hb.1
                    unfold isByte at this
                    split at this
                    · rfl
                    · cases this
                have hll := h1.eq hcl
                subst hll
                obtain ⟨ns, hns⟩ : ∃ ns : List Int, l' = ns.map (Value.int .u8) := by
                  clear h1 h2 h3 hl hcl
                  induction l' with
                  | nil => exact ⟨[], rfl⟩
                  | cons u l ih =>
                    simp only [List.all_cons, Bool.and_eq_true] at hb
                    obtain ⟨ns, hns⟩ := ih hb.2
                    have := hb.1
                    unfold isByte at this
                    split at this
                    · rename_i m; exact ⟨(Int.ofNat m) :: ns, by rw [hns]; rfl⟩
                    · cases this
                subst hns
                have hstr : (⟨((ns.map (Value.int .u8)).map byteOf').toArray⟩ : ByteArray) = ns.foldl (fun r n => r.push (UInt8.ofNat n.toNat)) ByteArray.empty := by
                  rw [foldl_bytes]
                  congr 1
                  apply Array.ext'
                  simp [byteOf']
                rw [hstr]
                cases hvr with
                | nilSlice =>
                  have : ns = [] := by
                    unfold firstA at hl
                    simp only [Option.some.injEq] at hl
                    cases ns with
                    | nil => rfl
                    | cons u ns => simp at hl
                  subst this
                  refine .val hS (v1 := .string .empty) (run_v ?_) (.string _)
                  rw [run_convert_bytes_string w src dst e none n c hs hee hd]
                  rfl
                | slice ad cp =>
                  rename_i a2 c2
                  refine .val hS (run_v (x := .string (ns.foldl (fun r n => r.push (UInt8.ofNat n.toNat)) ByteArray.empty)) ?_) (.string _)
                  rw [run_convert_bytes_string w src dst e _ n c2 hs hee hd]
                  refine run_bytesToString w a2 n c2 ns ?_
                  have := h2 w rfl
                  simpa [Builtin.firstCells] using this
            · cases he
          · cases he
        · cases he
      · cases he
    · exact pureV_sound hS (.cons hvr (.nil E)) (f := fun l => convert src dst (l.headD undef)) he
  · cases he

theorem callA_sound (hL : LkOK P L) (hS : Sit F w0 lim E h nx w) {f f' : Value} {args : List Value} {args' : Array Value} {r : R} (hf : VR E f f') (ha : LR E args args'.toList) (he : callA L h nx f args = some r) :
    RR P F w0 lim E nx w r (do let d ← Deferred.ofValue f' args'; invoke d.target d.args) := by
  unfold callA at he
  split at he
  · rename_i g first captured
    cases hf with
    | func hfn s1 q1 s2 q2 =>
      rename_i f2 a2 b2
      cases hfn
      have hargs : LR E (first.toList ++ args ++ captured.toList) ((a2 ++ args') ++ b2).toList := by
        have h1 : AR E first a2 := ⟨s1, q1⟩
        have h2 : AR E captured b2 := ⟨s2, q2⟩
        simpa using (h1.list.append ha).append h2.list
      split at he
      · rename_i v hv
        cases he
        obtain ⟨v', c2, c3⟩ := hL.ext _ _ _ hv E _ hargs
        refine .val hS (v1 := v') ?_ c2
        simp only [Deferred.ofValue, Sem.run_bind, Sem.run_pure, Result.andThen_ok, invoke]
        have := c3 w
        rw [Array.toArray_toList] at this
        exact this
      · split at he
        · rename_i fn hfn
          split at he
          · rename_i c hc
            cases he
            refine ⟨(a2 ++ args') ++ b2, ?_, hargs⟩
            simp only [Deferred.ofValue, Sem.run_bind, Sem.run_pure, Result.andThen_ok, invoke]
            exact hL.call _ _ _ hfn hc _ w
          · cases he
        · cases he
  · rename_i l first captured
    cases he
    cases hf with
    | func hfn s1 q1 s2 q2 =>
      rename_i f2 a2 b2
      cases hfn with
      | yield hl =>
        rename_i l2
        refine ⟨l2, a2 ++ args', hl, ?_, ?_⟩
        · have h1 : AR E first a2 := ⟨s1, q1⟩
          simpa using h1.list.append ha
        · simp only [Deferred.ofValue, Sem.run_bind, Sem.run_pure, Result.andThen_ok, invoke]
  · cases he

theorem evs_array (hρ : ∀ x v, ev tm x = some v → VR E v (ρ x)) {a : Array Operand} {vs : List Value} (he : evs tm a.toList = some vs) : LR E vs (a.map ρ).toList := by
  simpa using evs_sound hρ _ _ he

theorem aCall_sound (hL : LkOK P L) (hS : Sit F w0 lim E h nx w) (hρ : ∀ x v, ev tm x = some v → VR E v (ρ x)) {c : Call} {ty : TypeId} {r : R} (he : aCall P L tm h nx c.callee c.args.toList c.argTypes.toList = some r) :
    RR P F w0 lim E nx w r (do let d ← resolve ρ c ty; invoke d.target d.args) := by
  unfold aCall at he
  split at he
  · cases he
  · rename_i args hargs
    have ha := evs_array hρ hargs
    unfold resolve
    split at he
    · rename_i f hcf
      split at he
      · rename_i fv hf
        simp only [hcf]
        exact callA_sound hL hS (hρ _ _ hf) ha he
      · cases he
    · rename_i b hcb
      simp only [hcb]
      -- a builtin
      have two : ∀ {a b : Value} {xs : Array Value}, LR E [a, b] xs.toList → ∃ a' b', xs = #[a', b'] ∧ VR E a a' ∧ VR E b b' := by
        intro a b xs hx
        obtain ⟨a', t1, e1, r1, ht⟩ := hx.cases
        obtain ⟨b', t2, e2, r2, ht2⟩ := ht.cases
        have := ht2.nil_right
        subst this
        refine ⟨a', b', ?_, r1, r2⟩
        apply Array.ext'
        rw [e1, e2]
      have one : ∀ {a : Value} {xs : Array Value}, LR E [a] xs.toList → ∃ a', xs = #[a'] ∧ VR E a a' := by
        intro a xs hx
        obtain ⟨a', t1, e1, r1, ht⟩ := hx.cases
        have := ht.nil_right
        subst this
        exact ⟨a', by apply Array.ext'; rw [e1], r1⟩
      unfold builtinA at he
      split at he
      · obtain ⟨a', b', e, r1, r2⟩ := two ha
        rw [e]
        exact appendA_sound hL.ti hS r1 r2 he
      · obtain ⟨a', b', e, r1, r2⟩ := two ha
        rw [e]
        exact copyA_sound hL.ti hS r1 r2 he
      · obtain ⟨a', e, r1⟩ := one ha
        rw [e]
        unfold vR at he
        split at he
        · rename_i v hv
          cases he
          obtain ⟨v', h1, h2⟩ := lenOfA_sound hL.ti hS (ty := ty) r1 hv
          exact .val hS (run_v h1) h2
        · cases he
      · obtain ⟨a', e, r1⟩ := one ha
        rw [e]
        unfold vR at he
        split at he
        · rename_i v hv
          cases he
          obtain ⟨v', h1, h2⟩ := capA_sound (w := w) hL.ti (ty := ty) r1 hv
          exact .val hS (run_v h1) h2
        · cases he
      · have := pureV_sound hS ha (f := fun l => Builtin.min_ c.argTypes.toList.toArray 0 l.toArray) he
        rw [Array.toArray_toList] at this
        exact this
      · have := pureV_sound hS ha (f := fun l => Builtin.max_ c.argTypes.toList.toArray 0 l.toArray) he
        rw [Array.toArray_toList] at this
        exact this
      · cases he
        have := ha.nil_right
        have e : c.args.map ρ = #[] := by apply Array.ext'; simpa using this
        rw [e]
        rfl
      · cases he
    · cases he

theorem aDefer_sound (hρ : ∀ x v, ev tm x = some v → VR E v (ρ x)) {c : Call} {ty : TypeId} {r : R} (he : aDefer tm c.callee c.args.toList = some r) :
    RR P F w0 lim E nx w r (do pure (.defer (← resolve ρ c ty))) := by
  unfold aDefer at he
  split at he
  · cases he
  · rename_i args hargs
    have ha := evs_array hρ hargs
    unfold resolve
    split at he
    · rename_i f hcf
      split at he
      · rename_i g first captured hf
        cases he
        simp only [hcf]
        have hfr := hρ _ _ hf
        generalize ρ f = f' at hfr
        cases hfr with
        | func hfn s1 q1 s2 q2 =>
          rename_i f2 a2 b2
          cases hfn
          refine ⟨{ target := .fn (.func g) b2, args := a2 ++ c.args.map ρ }, by simp [Deferred.ofValue], .fn (.func g) ⟨s2, q2⟩ ?_⟩
          have h1 : AR E first a2 := ⟨s1, q1⟩
          exact AR.of_list (by simpa using h1.list.append ha)
      · cases he
    · cases he

theorem aop0_sound (hL : LkOK P L) (hS : Sit F w0 lim E h nx w) (hρ : ∀ x v, ev tm x = some v → VR E v (ρ x)) {o : Oper} {r : R} (he : aop0 P L tm h nx o.op = some r) : RR P F w0 lim E nx w r (execOp ρ o) := by
  cases hop : o.op with
  | move x => rw [hop] at he; unfold execOp; simp only [hop]; exact aMove_sound hS hρ he
  | assign x => rw [hop] at he; unfold execOp; simp only [hop]; exact aMove_sound hS hρ he
  | pick c a b => rw [hop] at he; unfold execOp; simp only [hop]; exact aPick_sound hS hρ he
  | alloc e => rw [hop] at he; unfold execOp; simp only [hop]; exact aAlloc_sound hL.ti hS he
  | box e x => rw [hop] at he; unfold execOp; simp only [hop]; exact aBox_sound hS hρ he
  | build t parts => rw [hop] at he; unfold execOp; simp only [hop]; exact aBuild_sound hL.ti hS hρ he
  | buildSlice t n parts => rw [hop] at he; unfold execOp; simp only [hop]; exact aBuildSlice_sound hL.ti hS hρ he
  | load t a => rw [hop] at he; unfold execOp; simp only [hop]; exact aLoad_sound hL.ti hS hρ he
  | store t a x => rw [hop] at he; unfold execOp; simp only [hop]; exact aStore_sound hL.ti hS hρ he
  | nilCheck x => rw [hop] at he; exact aNil_sound hS hρ hop he
  | binOp op t x y yt => rw [hop] at he; unfold execOp; simp only [hop]; exact aBin_sound hL.ti hS hρ he
  | unOp op t x => rw [hop] at he; unfold execOp; simp only [hop]; exact aUn_sound hS hρ he
  | convert s d x => rw [hop] at he; unfold execOp; simp only [hop]; exact aConv_sound hL.ti hS hρ he
  | makeInterface t x => rw [hop] at he; unfold execOp; simp only [hop]; exact aIface_sound hL.ti hS hρ he
  | makeFunc fn a b => rw [hop] at he; unfold execOp; simp only [hop]; exact aFunc_sound hS hρ he
  | makeMap t rs =>
    rw [hop] at he; unfold execOp; simp only [hop]
    cases rs with
    | none => cases he; exact aMakeMap_sound hS t
    | some x => cases he
  | makeSlice t l c => rw [hop] at he; unfold execOp; simp only [hop]; exact aMakeSlice_sound hL.ti hL.wide hS hρ he
  | slice t x lo hi mx => rw [hop] at he; unfold execOp; simp only [hop]; exact aSlice_sound hL.ti hS hρ he
  | fieldAddr s x f => rw [hop] at he; unfold execOp; simp only [hop]; exact aFieldAddr_sound hL.ti hS hρ he
  | field t x f => rw [hop] at he; unfold execOp; simp only [hop]; exact aField_sound hL.ti hS hρ he
  | indexAddr t x i => rw [hop] at he; unfold execOp; simp only [hop]; exact aIndexAddr_sound hL.ti hS hρ he
  | index t x i => rw [hop] at he; unfold execOp; simp only [hop]; exact aIndex_sound hL.ti hS hρ he
  | lookup t x k ok => rw [hop] at he; unfold execOp; simp only [hop]; exact aLookup_sound hL.ti hS hρ he
  | mapUpdate t m k x => rw [hop] at he; unfold execOp; simp only [hop]; exact aUpdate_sound hL.ti hS hρ he
  | insert t m k x => rw [hop] at he; unfold execOp; simp only [hop]; exact aUpdate_sound hL.ti hS hρ he
  | typeAssert x xt t ok => rw [hop] at he; unfold execOp; simp only [hop]; exact aAssert_sound hL.ti hS hρ he
  | extract t i => rw [hop] at he; unfold execOp; simp only [hop]; exact aExtract_sound hS hρ he
  | call c => rw [hop] at he; unfold execOp; simp only [hop]; exact aCall_sound hL hS hρ he
  | defer c => rw [hop] at he; unfold execOp; simp only [hop]; exact aDefer_sound hρ he
  | range t x => rw [hop] at he; unfold execOp; simp only [hop]; exact aRange_sound hL.ti hS hρ he
  | next x s =>
    rw [hop] at he; unfold execOp; simp only [hop]
    cases s with
    | true => exact aNext_sound hS hρ he
    | false => cases he
  | _ => rw [hop] at he; cases he

theorem symA_sound (hL : LkOK P L) (hS : Sit F w0 lim E h nx w) (hρ : ∀ x v, ev tm x = some v → VR E v (ρ x)) {o : Oper} {r : R} (he : symA L tm h nx o.op = some r) : RR P F w0 lim E nx w r (execOp ρ o) := by
  unfold symA at he
  split at he
  · rename_i op t x y yt hop
    unfold execOp; simp only [hop]
    split at he
    · rename_i a b ha hb
      unfold vR at he
      split at he
      · rename_i v hv
        cases he
        obtain ⟨v', h1, h2⟩ := hL.sbin _ _ _ _ _ hv E _ _ (hρ _ _ ha) (hρ _ _ hb)
        exact .val hS (run_v (h2 x y w)) h1
      · cases he
    · cases he
  · rename_i op t x hop
    unfold execOp; simp only [hop]
    split at he
    · rename_i a ha
      unfold vR at he
      split at he
      · rename_i v hv
        cases he
        obtain ⟨v', h1, h2⟩ := hL.sun _ _ _ hv E _ (hρ _ _ ha)
        exact .val hS (run_v (h2 w)) h1
      · cases he
    · cases he
  · rename_i s d x hop
    unfold execOp; simp only [hop]
    split at he
    · rename_i a ha
      unfold vR at he
      split at he
      · rename_i v hv
        cases he
        obtain ⟨v', h1, h2⟩ := hL.scv _ _ _ _ hv E _ (hρ _ _ ha)
        exact .val hS (run_v (h2 w)) h1
      · cases he
    · cases he
  · rename_i as ts hop
    unfold execOp; simp only [hop]
    split at he
    · rename_i l hl
      unfold vR at he
      split at he
      · rename_i v hv
        cases he
        obtain ⟨v', h1, h2⟩ := hL.smx _ _ _ _ hv E _ (evs_array hρ hl)
        have h3 := h2 w
        simp only [cond_true, Array.toArray_toList] at h3
        exact .val hS (run_v h3) h1
      · cases he
    · cases he
  · rename_i as ts hop
    unfold execOp; simp only [hop]
    split at he
    · rename_i l hl
      unfold vR at he
      split at he
      · rename_i v hv
        cases he
        obtain ⟨v', h1, h2⟩ := hL.smx _ _ _ _ hv E _ (evs_array hρ hl)
        have h3 := h2 w
        simp only [cond_false, Array.toArray_toList] at h3
        exact .val hS (run_v h3) h1
      · cases he
    · cases he
  · cases he

theorem aop_sound (hL : LkOK P L) (hS : Sit F w0 lim E h nx w) (hρ : ∀ x v, ev tm x = some v → VR E v (ρ x)) {o : Oper} {r : R} (he : aop P L tm h nx o.op = some r) : RR P F w0 lim E nx w r (execOp ρ o) := by
  unfold aop at he
  split at he
  · rename_i r' h0
    cases he
    exact aop0_sound hL hS hρ h0
  · exact symA_sound hL hS hρ he
end
end Go.Proofs.Ex
