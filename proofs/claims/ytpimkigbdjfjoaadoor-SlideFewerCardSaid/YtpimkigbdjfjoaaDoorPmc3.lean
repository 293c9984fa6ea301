/- pmc.longest at this program. -/
import Derived.Test.YtpimkigbdjfjoaaDoorPmc2
import Derived.Test.YtpimkigbdjfjoaaDoorPA
import Derived.ScopeJumps
set_option linter.unusedSimpArgs false
set_option linter.unusedVariables false
namespace Go.Proofs.YtpimkigbdjfjoaaDoor
open Go.RowKit
attribute [local go_sem] Oper.semAt_some

/-- what is common to the first k bands -/
def CoI (l : List Bd) (k : Nat) (lo hi : Int) (so : Bool) : Prop := (k = 0 ∧ so = false ∧ lo = 0 ∧ hi = 0) ∨ (0 < k ∧ so = true ∧ lo ≤ hi ∧ ∀ i, i < k → (bd l i).lo ≤ lo ∧ hi ≤ (bd l i).hi)
theorem CoI.next {l : List Bd} {k : Nat} {lo hi x y : Int} (h : CoI l k lo hi true) (hx : x = max lo (bd l k).lo) (hy : y = min hi (bd l k).hi) (hxy : x ≤ y) : CoI l (k + 1) x y true := by
  rcases h with ⟨_, h, _⟩ | ⟨h1, h2, h3, h4⟩
  · cases h
  · refine .inr ⟨by omega, rfl, hxy, fun i hi => ?_⟩
    by_cases e : i = k
    · subst e; omega
    · have := h4 i (by omega)
      omega
theorem CoI.first {l : List Bd} {k : Nat} {lo hi : Int} (h : CoI l k lo hi false) (hb : (bd l k).lo ≤ (bd l k).hi) : CoI l (k + 1) (bd l k).lo (bd l k).hi true := by
  rcases h with ⟨rfl, h, _⟩ | ⟨h1, h2, h3, h4⟩
  · refine .inr ⟨by omega, rfl, hb, fun i hi => ?_⟩
    obtain rfl : i = 0 := by omega
    omega
  · cases h2

set_option maxRecDepth 100000 in
set_option maxHeartbeats 2000000 in
theorem pmc_longest (A : Option Addr) (c : Nat) (l : List Bd) (hok : okF (-1) l = true) (hl : l.length ≤ 256) (h0 : 0 < l.length) (w : World) (hR : BR w A c l) :
    Calls Tryd.prog 100 #[.slice A l.length c] w fun e w' => ∃ (n : Nat) (lo hi : Int) (so : Bool), e = .returned (.tuple #[.agg #[.int .i64 lo, .int .i64 hi, .bool so], .int .i64 n]) ∧ Below w.heap.size w w' ∧ Hid (0 < n ∧ n ≤ l.length ∧ CoI l n lo hi so) := by
  have hmf : ∀ (fn : Fn) (first cap : Array Value) (w : World), (Instr.makeFunc fn first cap).run Tryd.prog w = .ok (.func fn first cap) w := fun _ _ _ _ => rfl
  have HR := hide (fun i (hi : i < l.length) => bd_rg hok i hi)
  go_enter Tryd.func100, Tryd.ntmps100
  go_wp2_with fail
  refine wp_scope_straight ?_
  go_wp2_with fail
  refine wp_label ?_
  go_wp2_with fail
  go_loopw [6, 12] (fun vn vi wr => ∃ (k : Nat) (lo hi : Int) (so : Bool), vn = .int .i64 k ∧ vi = .int .i64 k ∧ k ≤ l.length ∧ CoI l k lo hi so ∧ wr.heap[w.heap.size]? = some (.cells #[.int .i64 0, .int .i64 0, .bool false] 150 (0, 0)) ∧ wr.heap[w.heap.size + 1]? = some (.cells #[.int .i64 lo, .int .i64 hi, .bool so] 150 (0, 0)) ∧ Below w.heap.size w wr) (fun _ vi _ => l.length - (intOf vi).toNat)
  case atStart => exact ⟨0, 0, 0, false, rfl, rfl, by omega, .inl ⟨rfl, rfl, rfl, rfl⟩, (ka (na w #[.int .i64 0, .int .i64 0, .bool false] 150) (.cells #[.int .i64 0, .int .i64 0, .bool false] 150)), (na1 w (.cells #[.int .i64 0, .int .i64 0, .bool false] 150) #[.int .i64 0, .int .i64 0, .bool false] 150), (bA (bA (b0 w) (.cells #[.int .i64 0, .int .i64 0, .bool false] 150)) (.cells #[.int .i64 0, .int .i64 0, .bool false] 150))⟩
  case round =>
    obtain ⟨k, lo, hi, so, rfl, rfl, hk, hc, j1, j2, hb⟩ := hrel
    by_cases hlt : k < l.length
    · obtain ⟨g', o', rfl, z1, z2, z3⟩ := (hR.below hb).at_ hlt
      rw [bd_eq hlt] at z1 z2 z3
      obtain ⟨-, -, r3, -⟩ := HR.out k hlt
      have HC := hide hc
      cases so
      · have hc1 := hide (hc.first r3)
        clear hc
        have ct := fun w' hg => takes_first (w.heap.size + 1) lo hi (bd l k).t (bd l k).lo (bd l k).hi w' hg
        generalize bd l k = b at *
        obtain ⟨bt, bl, bh⟩ := b
        simp only at z1 z2 z3 ct
        obtain ⟨zo_a, zo_b, lo1⟩ := rcell j1
        obtain ⟨zq_a, zq_b, lq2⟩ := rcell j2
        go_wp2_with fail
        go_wp2_with fail
        refine (ct _ (ka (j2) (.cells #[.int .i64 bt, .int .i64 bl, .int .i64 bh] 37))).mono ?_
        rintro e w3 ⟨rfl, hx3, f_q3⟩
        have f_o3 := kx hx3 (ka (j1) (.cells #[.int .i64 bt, .int .i64 bl, .int .i64 bh] 37)) (by omega)
        have f_b3 := kx hx3 (na wr #[.int .i64 bt, .int .i64 bl, .int .i64 bh] 37) (by omega)
        have hB3 := bX (bA hb (.cells #[.int .i64 bt, .int .i64 bl, .int .i64 bh] 37)) hx3 (by omega)
        clear zo_a zo_b zq_a zq_b
        obtain ⟨zo_a, zo_b, lo3⟩ := rcell f_o3
        obtain ⟨zb_a, zb_b, lb3⟩ := rcell f_b3
        obtain ⟨zq_a, zq_b, lq3⟩ := rcell f_q3
        go_wp2
        go_roundw
        case rel => exact ⟨k + 1, bl, bh, true, by go_num, by go_num, by omega, hc1.out, (f_o3), (f_q3), hB3⟩
        case measure => simp [intOf]; omega
      · have hle : lo ≤ hi := by
          rcases hc with ⟨_, h, _⟩ | ⟨h1, h2, h3, h4⟩
          · cases h
          · exact h3
        obtain ⟨x, hx⟩ : ∃ x, x = max lo (bd l k).lo := ⟨_, rfl⟩
        obtain ⟨y, hy⟩ : ∃ y, y = min hi (bd l k).hi := ⟨_, rfl⟩
        by_cases hxy : x ≤ y
        · have hc1 := hide (hc.next hx hy hxy)
          have ct := fun w' hg => takes_more (w.heap.size + 1) lo hi (bd l k).t (bd l k).lo (bd l k).hi x y hle r3 hx hy hxy w' hg
          clear hx hy hc
          generalize bd l k = b at *
          obtain ⟨bt, bl, bh⟩ := b
          simp only at z1 z2 z3 ct
          obtain ⟨zo_a, zo_b, lo4⟩ := rcell j1
          obtain ⟨zq_a, zq_b, lq5⟩ := rcell j2
          go_wp2_with fail
          go_wp2_with fail
          refine (ct _ (ka (j2) (.cells #[.int .i64 bt, .int .i64 bl, .int .i64 bh] 37))).mono ?_
          rintro e w6 ⟨rfl, hx6, f_q6⟩
          have f_o6 := kx hx6 (ka (j1) (.cells #[.int .i64 bt, .int .i64 bl, .int .i64 bh] 37)) (by omega)
          have f_b6 := kx hx6 (na wr #[.int .i64 bt, .int .i64 bl, .int .i64 bh] 37) (by omega)
          have hB6 := bX (bA hb (.cells #[.int .i64 bt, .int .i64 bl, .int .i64 bh] 37)) hx6 (by omega)
          clear zo_a zo_b zq_a zq_b
          obtain ⟨zo_a, zo_b, lo6⟩ := rcell f_o6
          obtain ⟨zb_a, zb_b, lb6⟩ := rcell f_b6
          obtain ⟨zq_a, zq_b, lq6⟩ := rcell f_q6
          go_wp2
          go_roundw
          case rel => exact ⟨k + 1, x, y, true, by go_num, by go_num, by omega, hc1.out, (f_o6), (f_q6), hB6⟩
          case measure => simp [intOf]; omega
        · have ct := fun w' hg => takes_no (w.heap.size + 1) lo hi (bd l k).t (bd l k).lo (bd l k).hi x y hle r3 hx hy (by omega) w' hg
          have hk0 : 0 < k := by
            rcases hc with ⟨_, h, _⟩ | ⟨h1, _⟩
            · cases h
            · exact h1
          clear hx hy hc
          generalize bd l k = b at *
          obtain ⟨bt, bl, bh⟩ := b
          simp only at z1 z2 z3 ct
          obtain ⟨zo_a, zo_b, lo7⟩ := rcell j1
          obtain ⟨zq_a, zq_b, lq8⟩ := rcell j2
          go_wp2_with fail
          go_wp2_with fail
          refine (ct _ (ka (j2) (.cells #[.int .i64 bt, .int .i64 bl, .int .i64 bh] 37))).mono ?_
          rintro e w9 ⟨rfl, hx9, f_q9⟩
          have f_o9 := kx hx9 (ka (j1) (.cells #[.int .i64 bt, .int .i64 bl, .int .i64 bh] 37)) (by omega)
          have f_b9 := kx hx9 (na wr #[.int .i64 bt, .int .i64 bl, .int .i64 bh] 37) (by omega)
          have hB9 := bX (bA hb (.cells #[.int .i64 bt, .int .i64 bl, .int .i64 bh] 37)) hx9 (by omega)
          clear zo_a zo_b zq_a zq_b
          obtain ⟨zo_a, zo_b, lo9⟩ := rcell f_o9
          obtain ⟨zb_a, zb_b, lb9⟩ := rcell f_b9
          obtain ⟨zq_a, zq_b, lq9⟩ := rcell f_q9
          go_wp2_with fail
          simp only [Exit.noGoto]
          go_wp2_with fail
          rw [row3 f_o9]
          generalize hT10 : setRow _ _ _ = w10
          obtain ⟨hx10, f_o10⟩ := fin_x (b0 _) f_o9 hT10
          clear hT10
          have f_b10 := kx hx10 (f_b9) (by omega)
          have f_q10 := kx hx10 (f_q9) (by omega)
          have hB10 := bX hB9 hx10 (by omega)
          clear zb_a zb_b zo_a zo_b zq_a zq_b
          obtain ⟨zb_a, zb_b, lb10⟩ := rcell f_b10
          obtain ⟨zq_a, zq_b, lq10⟩ := rcell f_q10
          obtain ⟨zo_a, zo_b, lo10⟩ := rcell f_o10
          go_wp2_with fail
          refine bodyPost_ret (by simp [results, Tryd.results100, go_sem, zo_a]; try rfl) rfl ⟨k, lo, hi, true, rfl, hB10, hide ⟨hk0, hk, HC.out⟩⟩
    · obtain rfl : k = l.length := by omega
      have HC := hide hc
      clear hc
      obtain ⟨zo_a, zo_b, lo11⟩ := rcell j1
      obtain ⟨zq_a, zq_b, lq12⟩ := rcell j2
      go_wp2_with fail
      simp only [Exit.noGoto]
      go_wp2_with fail
      rw [row3 j1]
      generalize hT13 : setRow _ _ _ = w13
      obtain ⟨hx13, f_o13⟩ := fin_x (b0 _) j1 hT13
      clear hT13
      have f_q13 := kx hx13 (j2) (by omega)
      have hB13 := bX hb hx13 (by omega)
      clear zo_a zo_b zq_a zq_b
      obtain ⟨zq_a, zq_b, lq13⟩ := rcell f_q13
      obtain ⟨zo_a, zo_b, lo13⟩ := rcell f_o13
      go_wp2_with fail
      refine bodyPost_ret (by simp [results, Tryd.results100, go_sem, zo_a]; try rfl) rfl ⟨l.length, lo, hi, so, rfl, hB13, hide ⟨h0, hk, HC.out⟩⟩
end Go.Proofs.YtpimkigbdjfjoaaDoor
