/- The package span at this program: folded, together, Meet (of two spans). -/
import Derived.Test.YtpimkigbdjfjoaaDoorSpan1
set_option linter.unusedSimpArgs false
set_option linter.unusedVariables false
namespace Go.Proofs.YtpimkigbdjfjoaaDoor
open Go.RowKit
attribute [local go_sem] Oper.semAt_some

def evals : List (Int × Int) → List Value
  | [] => []
  | b :: l => .int .i64 b.1 :: .int .i64 b.2 :: evals l
theorem evals_len (l : List (Int × Int)) : (evals l).length = l.length * 2 := by
  induction l with
  | nil => rfl
  | cons b l ih => simp [evals, ih]; omega
theorem evals_append (l m : List (Int × Int)) : evals (l ++ m) = evals l ++ evals m := by
  induction l with
  | nil => rfl
  | cons b l ih => simp [evals, ih]
theorem evals_one (l : List (Int × Int)) : ∀ u ∈ evals l, u.oneCell' = true := by
  induction l with
  | nil => intro u h; cases h
  | cons b l ih =>
    intro u h
    simp only [evals, List.mem_cons] at h
    rcases h with rfl | rfl | h
    · rfl
    · rfl
    · exact ih u h
def OwnE (B : Nat) (w : World) (v : Value) (l : List (Int × Int)) : Prop := w.ownsRow B 190 2 v l.length (evals l)
theorem OwnE.two {B : Nat} {w : World} {v : Value} {a b c d : Int} (h : OwnE B w v [(a, b), (c, d)]) : ∃ A m, v = .slice A 2 m ∧ Two 190 w A a b c d := by
  obtain ⟨h1, ⟨rfl, h2⟩ | ⟨g, cap, cur, rfl, hb, hg, hn, hm, hs, ht⟩⟩ := h
  · cases h2
  · refine ⟨some ⟨g, 0, none⟩, cap, rfl, g, cur, rfl, hg, ?_⟩
    have hk : ∀ j, j < 4 → cur[j]? = (evals [(a, b), (c, d)])[j]? := fun j hj => by
      rw [← ht, List.getElem?_take, if_pos (show j < [(a, b), (c, d)].length * 2 from hj)]
      simp
    exact ⟨hk 0 (by omega), hk 1 (by omega), hk 2 (by omega), hk 3 (by omega)⟩
theorem OwnE.lift {B : Nat} {w w' : World} {v : Value} {l : List (Int × Int)} (h : OwnE B w v l) (hb : Below w.heap.size w w') : OwnE B w' v l := by
  obtain ⟨h1, h2⟩ := h
  refine ⟨h1, ?_⟩
  rcases h2 with h2 | ⟨g, cap, cur, h3, h4, h5, h6⟩
  · exact .inl h2
  · exact .inr ⟨g, cap, cur, h3, h4, (hb.block g (Array.getElem?_eq_some_iff.1 h5).1).trans h5, h6⟩
theorem OwnE.lt {B : Nat} {w : World} {v : Value} {l : List (Int × Int)} (h : OwnE B w v l) : ∀ k, v.ownBlock = some k → B ≤ k := fun k hk => (World.ownsRow.lt h k hk).1
theorem OwnE.nil (B : Nat) (w : World) : OwnE B w (.slice none 0 0) [] := World.ownsRow_nil w B _ 2

theorem ends_info : (Tryd.prog.info? 190).map (fun i => (i.zero, i.size, i.bytes)) = some (some (.agg #[.int .i64 0, .int .i64 0]), 2, 16) := by kernel_rfl

set_option maxRecDepth 100000 in
theorem pushE_run (w : World) (ty : TypeId) {B : Nat} {v : Value} {l : List (Int × Int)} {a b : Int} {g : Nat} {c : Nat} (hown : OwnE B w v l) (hr : w.heap[g]? = some (.cells #[.int .i64 a, .int .i64 b] 190 (0, 0))) (hlen : l.length + 1 ≤ 4096) (hB : B ≤ w.heap.size) :
    ∃ v' w', (Builtin.append_ #[195, 195] ty #[v, .slice (some ⟨g, 0, none⟩) 1 c]).run Tryd.prog w = .ok v' w' ∧ OwnE B w' v' (l ++ [(a, b)]) ∧ w.grownBy w' v.ownBlock := by
  obtain ⟨i0, hi0, hz0, hz1, hz2⟩ := info_parts ends_info
  have hz := (rcell hr).1
  have hadd : ∀ j, (⟨g, 0, none⟩ : Addr).add j = ⟨g, j, none⟩ := fun j => by unfold Addr.add; split <;> simp_all
  have hflat : ∀ j u, (evals [(a, b)])[j]? = some u → w.cell? ((⟨g, 0, none⟩ : Addr).add j) = some u := fun j u hu => by
    rw [hadd, hz]
    have hj : j < 2 := by have := (List.getElem?_eq_some_iff.1 hu).1; simpa [evals] using this
    have : j = 0 ∨ j = 1 := by omega
    rcases this with rfl | rfl
    · exact hu
    · exact hu
  obtain ⟨v', w', hrun, h2, h3, _, _⟩ := run_append_own_at (P := Tryd.prog) w B 195 ty 190 i0 (.agg #[.int .i64 0, .int .i64 0]) 2 16 Tryd.underlying195 hi0 hz0 hz1 hz2 rfl (by decide) v l.length (evals l) hown ⟨g, 0, none⟩ 1 c (evals [(a, b)]) (evals_len _) hflat
    (evals_one _) (by simp only [maxLen]; omega) (by omega) hB
  refine ⟨v', w', hrun, ?_, h3⟩
  unfold OwnE
  rw [List.length_append, evals_append]
  exact h2

set_option maxRecDepth 100000 in
theorem wpList_pushE {ops : Array Oper} {rest : List Oper} {o : Oper} {a : Act} {w : World} {Q : Exit → Act → World → Prop} (hgd : o.guard = none) (s x : Operand)
    (ho : o.op = .call { callee := .builtin .append, args := #[s, x], argTypes := #[195, 195] }) (B : Nat) (v : Value) (l : List (Int × Int)) (p q : Int) (g : Nat) (c : Nat)
    (hs : a.eval s = v) (hx : a.eval x = .slice (some ⟨g, 0, none⟩) 1 c) (hown : OwnE B w v l) (hr : w.heap[g]? = some (.cells #[.int .i64 p, .int .i64 q] 190 (0, 0))) (hlen : l.length + 1 ≤ 4096) (hB : B ≤ w.heap.size)
    (h : ∀ v' w', OwnE B w' v' (l ++ [(p, q)]) → (∀ w0 : World, Below B w0 w → Below B w0 w') → w.heap.size ≤ w'.heap.size → wpList Tryd.prog ops Q rest (a.put o.dst v') w') : wpList Tryd.prog ops Q (o :: rest) a w := by
  obtain ⟨v', w', hrun, h2, h3⟩ := pushE_run w o.type hown hr hlen hB
  refine wpList_plain hgd fun _ hK => ?_
  unfold Oper.wp execOp
  simp only [ho, resolve, invoke, builtin, Sem.run_bind, Sem.run_pure, Result.andThen_ok, List.map_toArray, List.map_cons, List.map_nil, hs, hx]
  rw [hrun]
  exact hK _ _ (h v' w' h2 (fun w0 hb => hb.grown h3 hB hown.lt) h3.size)

set_option maxRecDepth 100000 in
set_option maxHeartbeats 1000000 in
theorem span_folded (A : Option Addr) (m : Nat) (a b c d x y : Int) (w : World) (hA : Two 190 w A a b c d)
    (c1 : ∀ w, Calls Tryd.prog 134 #[.agg #[.int .i64 a, .int .i64 b], .agg #[.int .i64 c, .int .i64 d]] w fun e w' => e = .returned (.agg #[.int .i64 x, .int .i64 y]) ∧ Below w.heap.size w w') :
    Calls Tryd.prog 140 #[.slice A 2 m, .func (Fn.func 134) #[] #[]] w fun e w' => e = .returned (.tuple #[.agg #[.int .i64 x, .int .i64 y], .bool true]) ∧ Below w.heap.size w w' := by
  obtain ⟨g, cur, rfl, hg, q0, q1, q2, q3⟩ := hA
  go_enter Tryd.func140, Tryd.ntmps140
  obtain ⟨zg_a, zg_b, lg0⟩ := rcell hg
  go_wp2_with fail
  go_loopw [11] (fun vi wr => ∃ (k : Nat) (p q : Int), vi = .int .i64 k ∧ k ≤ 2 ∧ (k = 1 → p = a ∧ q = b) ∧ (k = 2 → p = x ∧ q = y) ∧ wr.heap[g]? = some (.cells cur 190 (0, 0)) ∧ wr.heap[w.heap.size]? = some (.cells #[.int .i64 0, .int .i64 0] 190 (0, 0)) ∧ wr.heap[w.heap.size + 1]? = some (.cells #[.int .i64 p, .int .i64 q] 190 (0, 0)) ∧ Below w.heap.size w wr) (fun vi _ => 2 - (intOf vi).toNat)
  case atStart => exact ⟨0, 0, 0, rfl, by omega, by omega, by omega, (ka (ka (hg) (.cells #[.int .i64 0, .int .i64 0] 190)) (.cells #[.int .i64 0, .int .i64 0] 190)), (ka (na w #[.int .i64 0, .int .i64 0] 190) (.cells #[.int .i64 0, .int .i64 0] 190)), (na1 w (.cells #[.int .i64 0, .int .i64 0] 190) #[.int .i64 0, .int .i64 0] 190), (bA (bA (b0 w) (.cells #[.int .i64 0, .int .i64 0] 190)) (.cells #[.int .i64 0, .int .i64 0] 190))⟩
  case round =>
    obtain ⟨k, p, q, rfl, hk, e1, e2, j1, j2, j3, hb⟩ := hrel
    have hk3 : k = 0 ∨ k = 1 ∨ k = 2 := by omega
    rcases hk3 with rfl | rfl | rfl
    · obtain ⟨zg_a, zg_b, lg1⟩ := rcell j1
      obtain ⟨zo_a, zo_b, lo2⟩ := rcell j2
      obtain ⟨zu_a, zu_b, lu3⟩ := rcell j3
      go_wp2_with fail
      rw [row2 j3]
      generalize hT4 : setRow _ _ _ = w4
      have hz4 : w4.heap.size = wr.heap.size := by rw [← hT4]; exact setRow_size _ _ _
      obtain ⟨hx4, f_u4⟩ := fin_x (b0 _) j3 hT4
      clear hT4
      have f_g4 := kx hx4 (j1) (by omega)
      have f_o4 := kx hx4 (j2) (by omega)
      have hB4 := bX hb hx4 (by omega)
      clear zg_a zg_b zo_a zo_b zu_a zu_b
      obtain ⟨zg_a, zg_b, lg4⟩ := rcell f_g4
      obtain ⟨zo_a, zo_b, lo4⟩ := rcell f_o4
      obtain ⟨zu_a, zu_b, lu4⟩ := rcell f_u4
      go_roundw
      case rel => exact ⟨1, a, b, by go_num, by omega, by omega, by omega, (ka (f_g4) (.cells #[.int .i64 a, .int .i64 b] 190)), (ka (f_o4) (.cells #[.int .i64 a, .int .i64 b] 190)), (ka (f_u4) (.cells #[.int .i64 a, .int .i64 b] 190)), (bA hB4 (.cells #[.int .i64 a, .int .i64 b] 190))⟩
      case measure => simp [intOf]
    · obtain ⟨rfl, rfl⟩ := e1 rfl
      obtain ⟨zg_a, zg_b, lg5⟩ := rcell j1
      obtain ⟨zo_a, zo_b, lo6⟩ := rcell j2
      obtain ⟨zu_a, zu_b, lu7⟩ := rcell j3
      go_wp2_with fail
      go_wp2_with fail
      refine (c1 _).mono ?_
      rintro e w8 ⟨rfl, hb8⟩
      have f_g8 := kp hb8 (ka (j1) (.cells #[.int .i64 c, .int .i64 d] 190))
      have f_o8 := kp hb8 (ka (j2) (.cells #[.int .i64 c, .int .i64 d] 190))
      have f_u8 := kp hb8 (ka (j3) (.cells #[.int .i64 c, .int .i64 d] 190))
      have f_s8 := kp hb8 (na wr #[.int .i64 c, .int .i64 d] 190)
      have hB8 := bB (bA hb (.cells #[.int .i64 c, .int .i64 d] 190)) hb8
      clear zg_a zg_b zo_a zo_b zu_a zu_b
      obtain ⟨zg_a, zg_b, lg8⟩ := rcell f_g8
      obtain ⟨zo_a, zo_b, lo8⟩ := rcell f_o8
      obtain ⟨zu_a, zu_b, lu8⟩ := rcell f_u8
      obtain ⟨zs_a, zs_b, ls8⟩ := rcell f_s8
      go_wp2_with fail
      rw [row2 f_u8]
      generalize hT9 : setRow _ _ _ = w9
      obtain ⟨hx9, f_u9⟩ := fin_x (b0 _) f_u8 hT9
      clear hT9
      have f_g9 := kx hx9 (f_g8) (by omega)
      have f_o9 := kx hx9 (f_o8) (by omega)
      have f_s9 := kx hx9 (f_s8) (by omega)
      have hB9 := bX hB8 hx9 (by omega)
      clear zg_a zg_b zo_a zo_b zs_a zs_b zu_a zu_b
      obtain ⟨zg_a, zg_b, lg9⟩ := rcell f_g9
      obtain ⟨zo_a, zo_b, lo9⟩ := rcell f_o9
      obtain ⟨zs_a, zs_b, ls9⟩ := rcell f_s9
      obtain ⟨zu_a, zu_b, lu9⟩ := rcell f_u9
      go_roundw
      case rel => exact ⟨2, x, y, by go_num, by omega, by omega, by omega, (f_g9), (f_o9), (f_u9), hB9⟩
      case measure => simp [intOf]
    · obtain ⟨rfl, rfl⟩ := e2 rfl
      obtain ⟨zg_a, zg_b, lg10⟩ := rcell j1
      obtain ⟨zo_a, zo_b, lo11⟩ := rcell j2
      obtain ⟨zu_a, zu_b, lu12⟩ := rcell j3
      go_wp2_with fail
      rw [row2 j2]
      generalize hT13 : setRow _ _ _ = w13
      obtain ⟨hx13, f_o13⟩ := fin_x (b0 _) j2 hT13
      clear hT13
      have f_g13 := kx hx13 (j1) (by omega)
      have f_u13 := kx hx13 (j3) (by omega)
      have hB13 := bX hb hx13 (by omega)
      clear zg_a zg_b zo_a zo_b zu_a zu_b
      obtain ⟨zg_a, zg_b, lg13⟩ := rcell f_g13
      obtain ⟨zu_a, zu_b, lu13⟩ := rcell f_u13
      obtain ⟨zo_a, zo_b, lo13⟩ := rcell f_o13
      go_wp2_with fail
      refine bodyPost_ret (by simp [results, Tryd.results140, go_sem, zo_a]; try rfl) rfl ⟨rfl, hB13⟩

set_option maxRecDepth 100000 in
set_option maxHeartbeats 1000000 in
theorem span_together (A : Option Addr) (m : Nat) (a b c d x y : Int) (h1 : a ≤ b) (h2 : c ≤ d) (hx : x = max a c) (hy : y = min b d) (z1 z2 E : Int) (hE : x ≤ y → z1 = x ∧ z2 = y ∧ E = 0) (hE2 : y < x → z1 = 0 ∧ z2 = 0 ∧ E = 9) (w : World) (hA : Two 148 w A a b c d) :
    Calls Tryd.prog 133 #[.slice A 2 m, .func (Fn.func 134) #[] #[]] w fun e w' => e = .returned (.tuple #[.agg #[.int .i64 z1, .int .i64 z2], .int .i64 E]) ∧ Below w.heap.size w w' := by
  have c0 := fun w hA => span_checked A m a b c d h1 h2 w hA
  have cab := span_of a b
  have ccd := span_of c d
  have cm := ends_met a b c d
  rw [← hx, ← hy] at cm
  clear hx hy
  have cf := fun A m w hA => span_folded A m a b c d x y w hA cm
  have cs := ends_span x y
  obtain ⟨g, cur, rfl, hg, q0, q1, q2, q3⟩ := hA
  have C0 := c0 w ⟨g, cur, rfl, hg, q0, q1, q2, q3⟩
  go_enter Tryd.func133, Tryd.ntmps133
  obtain ⟨zg_a, zg_b, lg0⟩ := rcell hg
  go_wp2_with fail
  refine (c0 _ ⟨g, cur, rfl, (ka (hg) (.cells #[.int .i64 0, .int .i64 0] 148)), q0, q1, q2, q3⟩).mono ?_
  rintro e w1 ⟨rfl, hb1⟩
  have f_g1 := kp hb1 (ka (hg) (.cells #[.int .i64 0, .int .i64 0] 148))
  have f_o1 := kp hb1 (na w #[.int .i64 0, .int .i64 0] 148)
  have hB1 := bB (bA (b0 w) (.cells #[.int .i64 0, .int .i64 0] 148)) hb1
  clear zg_a zg_b
  obtain ⟨zg_a, zg_b, lg1⟩ := rcell f_g1
  obtain ⟨zo_a, zo_b, lo1⟩ := rcell f_o1
  clear c0 C0
  have HW := hB1
  have foW := (f_o1)
  have fgW := (f_g1)
  generalize w1 = W0 at *
  go_wp2_with fail
  go_loopw [7, 21] (fun v7 vi wr => ∃ (k : Nat) (es : List (Int × Int)), vi = .int .i64 k ∧ k ≤ 2 ∧ es = [(a, b), (c, d)].take k ∧ OwnE W0.heap.size wr v7 es ∧ Below W0.heap.size W0 wr) (fun _ vi _ => 2 - (intOf vi).toNat)
  case atStart => exact ⟨0, [], rfl, by omega, rfl, OwnE.nil _ _, b0 W0⟩
  case round =>
    obtain ⟨k, es, rfl, hk, he, ho, hb⟩ := hrel
    have hk3 : k = 0 ∨ k = 1 ∨ k = 2 := by omega
    rcases hk3 with rfl | rfl | rfl
    · subst he
      have fgr := kp hb fgW
      obtain ⟨zg_a, zg_b, lg2⟩ := rcell fgr
      go_wp2_with fail
      go_wp2_with fail
      refine (cab _).mono ?_
      rintro e w3 ⟨rfl, hb3⟩
      have f_g3 := kp hb3 (ka (fgr) (.cells #[.int .i64 a, .int .i64 b] 148))
      have f_s3 := kp hb3 (na wr #[.int .i64 a, .int .i64 b] 148)
      have hB3 := bB (bA hb (.cells #[.int .i64 a, .int .i64 b] 148)) hb3
      clear zg_a zg_b
      obtain ⟨zg_a, zg_b, lg3⟩ := rcell f_g3
      obtain ⟨zs_a, zs_b, ls3⟩ := rcell f_s3
      have ho4 := (ho.lift (bA (b0 wr) (.cells #[.int .i64 a, .int .i64 b] 148))).lift hb3
      have HB4 := hB3
      clear ho
      go_wp2_with (at_builtin; refine wpList_pushE rfl _ _ rfl W0.heap.size _ [] a b _ _ rfl rfl (ho4.lift (bA (b0 _) _)) (na _ _ _) (by simp) (bA HB4 _).size ?_; intro v1 wA ho5 hbA hs5)
      have B5 := hbA _ (bA HB4 _)
      go_roundw
      case rel => exact ⟨1, [(a, b)], by go_num, by omega, rfl, ho5, B5⟩
      case measure => simp [intOf]
    · subst he
      have fgr := kp hb fgW
      obtain ⟨zg_a, zg_b, lg4⟩ := rcell fgr
      go_wp2_with fail
      go_wp2_with fail
      refine (ccd _).mono ?_
      rintro e w5 ⟨rfl, hb5⟩
      have f_g5 := kp hb5 (ka (fgr) (.cells #[.int .i64 c, .int .i64 d] 148))
      have f_s5 := kp hb5 (na wr #[.int .i64 c, .int .i64 d] 148)
      have hB5 := bB (bA hb (.cells #[.int .i64 c, .int .i64 d] 148)) hb5
      clear zg_a zg_b
      obtain ⟨zg_a, zg_b, lg5⟩ := rcell f_g5
      obtain ⟨zs_a, zs_b, ls5⟩ := rcell f_s5
      have ho4 := (ho.lift (bA (b0 wr) (.cells #[.int .i64 c, .int .i64 d] 148))).lift hb5
      have HB4 := hB5
      clear ho
      go_wp2_with (at_builtin; refine wpList_pushE rfl _ _ rfl W0.heap.size _ [(a, b)] c d _ _ rfl rfl (ho4.lift (bA (b0 _) _)) (na _ _ _) (by simp) (bA HB4 _).size ?_; intro v1 wA ho5 hbA hs5)
      have B5 := hbA _ (bA HB4 _)
      go_roundw
      case rel => exact ⟨2, [(a, b), (c, d)], by go_num, by omega, rfl, ho5, B5⟩
      case measure => simp [intOf]
    · subst he
      obtain ⟨A2, m2, rfl, hT⟩ := OwnE.two (a := a) (b := b) (c := c) (d := d) ho
      have hbr := bB HW hb
      have fo_r := kp hb foW
      obtain ⟨zo_a, zo_b, lo6⟩ := rcell fo_r
      go_wp2_with fail
      refine (cf _ _ _ hT).mono ?_
      rintro e w7 ⟨rfl, hb7⟩
      have f_o7 := kp hb7 (fo_r)
      have hB7 := bB hbr hb7
      clear zo_a zo_b
      obtain ⟨zo_a, zo_b, lo7⟩ := rcell f_o7
      go_wp2_with fail
      refine (cs _).mono ?_
      rintro e w8 ⟨rfl, hb8⟩
      have f_o8 := kp hb8 (ka (f_o7) (.cells #[.int .i64 x, .int .i64 y] 190))
      have f_p8 := kp hb8 (na w7 #[.int .i64 x, .int .i64 y] 190)
      have hB8 := bB (bA hB7 (.cells #[.int .i64 x, .int .i64 y] 190)) hb8
      clear zo_a zo_b
      obtain ⟨zo_a, zo_b, lo8⟩ := rcell f_o8
      obtain ⟨zp_a, zp_b, lp8⟩ := rcell f_p8
      by_cases hxy : x ≤ y
      · obtain ⟨e1, e2, rfl⟩ := hE hxy
        replace e1 := e1.symm
        replace e2 := e2.symm
        subst e1
        subst e2
        have cc := span_Check_yes x y hxy
        go_wp2_with fail
        refine (cc _).mono ?_
        rintro e w9 ⟨rfl, hb9⟩
        have f_o9 := kp hb9 (ka (f_o8) (.cells #[.int .i64 x, .int .i64 y] 148))
        have f_p9 := kp hb9 (ka (f_p8) (.cells #[.int .i64 x, .int .i64 y] 148))
        have f_q9 := kp hb9 (na w8 #[.int .i64 x, .int .i64 y] 148)
        have hB9 := bB (bA hB8 (.cells #[.int .i64 x, .int .i64 y] 148)) hb9
        clear zo_a zo_b zp_a zp_b
        obtain ⟨zo_a, zo_b, lo9⟩ := rcell f_o9
        obtain ⟨zp_a, zp_b, lp9⟩ := rcell f_p9
        obtain ⟨zq_a, zq_b, lq9⟩ := rcell f_q9
        go_wp2_with fail
        rw [row2 f_o9]
        generalize hT10 : setRow _ _ _ = w10
        obtain ⟨hx10, f_o10⟩ := fin_x (b0 _) f_o9 hT10
        clear hT10
        have f_p10 := kx hx10 (f_p9) (by omega)
        have f_q10 := kx hx10 (f_q9) (by omega)
        have hB10 := bX hB9 hx10 (by omega)
        clear zo_a zo_b zp_a zp_b zq_a zq_b
        obtain ⟨zp_a, zp_b, lp10⟩ := rcell f_p10
        obtain ⟨zq_a, zq_b, lq10⟩ := rcell f_q10
        obtain ⟨zo_a, zo_b, lo10⟩ := rcell f_o10
        go_wp2_with fail
        refine bodyPost_ret (by simp [results, Tryd.results133, go_sem, zo_a]; try rfl) rfl ⟨rfl, hB10⟩
      · obtain ⟨rfl, rfl, rfl⟩ := hE2 (by omega)
        have cc := span_Check_no x y (by omega)
        go_wp2_with fail
        refine (cc _).mono ?_
        rintro e w9 ⟨rfl, hb9⟩
        have f_o9 := kp hb9 (ka (f_o8) (.cells #[.int .i64 x, .int .i64 y] 148))
        have f_p9 := kp hb9 (ka (f_p8) (.cells #[.int .i64 x, .int .i64 y] 148))
        have f_q9 := kp hb9 (na w8 #[.int .i64 x, .int .i64 y] 148)
        have hB9 := bB (bA hB8 (.cells #[.int .i64 x, .int .i64 y] 148)) hb9
        clear zo_a zo_b zp_a zp_b
        obtain ⟨zo_a, zo_b, lo9⟩ := rcell f_o9
        obtain ⟨zp_a, zp_b, lp9⟩ := rcell f_p9
        obtain ⟨zq_a, zq_b, lq9⟩ := rcell f_q9
        go_wp2_with fail
        rw [row2 f_o9]
        generalize hT10 : setRow _ _ _ = w10
        obtain ⟨hx10, f_o10⟩ := fin_x (b0 _) f_o9 hT10
        clear hT10
        have f_p10 := kx hx10 (f_p9) (by omega)
        have f_q10 := kx hx10 (f_q9) (by omega)
        have hB10 := bX hB9 hx10 (by omega)
        clear zo_a zo_b zp_a zp_b zq_a zq_b
        obtain ⟨zp_a, zp_b, lp10⟩ := rcell f_p10
        obtain ⟨zq_a, zq_b, lq10⟩ := rcell f_q10
        obtain ⟨zo_a, zo_b, lo10⟩ := rcell f_o10
        go_wp2_with fail
        refine bodyPost_ret (by simp [results, Tryd.results133, go_sem, zo_a]; try rfl) rfl ⟨rfl, hB10⟩

theorem span_Meet (A : Option Addr) (m : Nat) (a b c d x y : Int) (h1 : a ≤ b) (h2 : c ≤ d) (hx : x = max a c) (hy : y = min b d) (z1 z2 E : Int) (hE : x ≤ y → z1 = x ∧ z2 = y ∧ E = 0) (hE2 : y < x → z1 = 0 ∧ z2 = 0 ∧ E = 9) (w : World) (hA : Two 148 w A a b c d) :
    Calls Tryd.prog 129 #[.slice A 2 m] w fun e w' => e = .returned (.tuple #[.agg #[.int .i64 z1, .int .i64 z2], .int .i64 E]) ∧ Below w.heap.size w w' := by
  have c0 := fun w hA => span_together A m a b c d x y h1 h2 hx hy z1 z2 E hE hE2 w hA
  clear hx hy hE hE2
  have hA1 := fun o => hA.below (bA (b0 w) o)
  go_enter Tryd.func129, Tryd.ntmps129
  go_wp2_with fail
  refine (c0 _ (hA1 _)).mono ?_
  rintro e w1 ⟨rfl, hb1⟩
  have f_o1 := kp hb1 (na w #[.int .i64 0, .int .i64 0] 148)
  have hB1 := bB (bA (b0 w) (.cells #[.int .i64 0, .int .i64 0] 148)) hb1
  obtain ⟨zo_a, zo_b, lo1⟩ := rcell f_o1
  go_wp2_with fail
  (rw [row2 (f_o1)]; generalize hT : setRow _ _ _ = wE; obtain ⟨hbE, hgE⟩ := ret_row hB1 (by omega) (f_o1) hT; have zE := (rcell hgE).1; clear hT; refine bodyPost_ret (by simp [results, Tryd.results129, go_sem, zE]; try rfl) rfl ?_)
  exact ⟨rfl, hbE⟩
end Go.Proofs.YtpimkigbdjfjoaaDoor
