/- yearbookref10.Let at this program. -/
import Derived.Test.YtpimkigbdjfjoaaDoorPB
import Derived.Test.YtpimkigbdjfjoaaDoorRef10s
import Derived.Test.YtpimkigbdjfjoaaDoorSlideM
set_option linter.unusedSimpArgs false
set_option linter.unusedVariables false
namespace Go.Proofs.YtpimkigbdjfjoaaDoor
open Go.RowKit

/-- what the first i bands let with a band, behind what was let ahead -/
def lx (l : List Bd) (b : Bd) (s : Sl × Sl) : Nat → Sl × Sl
  | 0 => s
  | i + 1 => let1 b (lx l b s i) (bd l i)
theorem lk_lx (l : List Bd) (j : Nat) (s : Sl × Sl) : ∀ i, lk l j s i = lx l (bd l j) s i
  | 0 => rfl
  | i + 1 => by rw [lk, lx, lk_lx l j s i]
theorem lx_take (l : List Bd) (b : Bd) (s : Sl × Sl) (k : Nat) : ∀ i, i ≤ k → lx (l.take k) b s i = lx l b s i
  | 0, _ => rfl
  | i + 1, h => by rw [lx, lx, lx_take l b s k i (by omega), bd_take (by omega)]

set_option maxRecDepth 100000 in
set_option maxHeartbeats 2000000 in
theorem ref10_Let_in (g o c : Nat) (l : List Bd) (cur : Array Value) (bt bl bh n0 d0 n1 d1 : Int) (z0 : Hid (lx l ⟨bt, bl, bh⟩ (⟨n0, d0⟩, ⟨n1, d1⟩) 0 = (⟨n0, d0⟩, ⟨n1, d1⟩)))
    (rb : 0 ≤ bt ∧ bt ≤ 281474976710656 ∧ -2305844108725321728 ≤ bl ∧ bl ≤ 2305844108725321728 ∧ -2305844108725321728 ≤ bh ∧ bh ≤ 2305844108725321728)
    (hl : Hid (∀ i, i < l.length → (0 ≤ (bd l i).t ∧ (bd l i).t < bt) ∧ (-2305844108725321728 ≤ (bd l i).lo ∧ (bd l i).lo ≤ 2305844108725321728) ∧ (-2305844108725321728 ≤ (bd l i).hi ∧ (bd l i).hi ≤ 2305844108725321728)))
    (hs : Hid (∀ i, i ≤ l.length → slIs (lx l ⟨bt, bl, bh⟩ (⟨n0, d0⟩, ⟨n1, d1⟩) i).1 = true ∧ slIs (lx l ⟨bt, bl, bh⟩ (⟨n0, d0⟩, ⟨n1, d1⟩) i).2 = true))
    (HC : Hid (∀ i, i < l.length → cur[o + i * 3]? = some (.int .i64 (bd l i).t) ∧ cur[o + i * 3 + 1]? = some (.int .i64 (bd l i).lo) ∧ cur[o + i * 3 + 2]? = some (.int .i64 (bd l i).hi)))
    (hn : l.length ≤ 100000) (w : World) (hg : w.heap[g]? = some (.cells cur 37 (0, 0))) (E0 E1 : Sl) (hE : Hid (lx l ⟨bt, bl, bh⟩ (⟨n0, d0⟩, ⟨n1, d1⟩) l.length = (E0, E1))) :
    Calls Tryd.prog 47 #[.slice (some ⟨g, o, none⟩) l.length c, .agg #[.int .i64 bt, .int .i64 bl, .int .i64 bh], .agg #[.int .i64 n0, .int .i64 d0], .agg #[.int .i64 n1, .int .i64 d1]] w fun e w' => e = .returned (.tuple #[.agg #[.int .i64 E0.n, .int .i64 E0.d], .agg #[.int .i64 E1.n, .int .i64 E1.d]]) ∧ Below w.heap.size w w' := by
  go_enter Tryd.func47, Tryd.ntmps47
  obtain ⟨zg_a, zg_b, lg0⟩ := rcell hg
  go_wp2_with fail
  go_loopw [16] (fun vi wr => ∃ (k : Nat) (a0 a1 c0 c1 : Int), vi = .int .i64 k ∧ k ≤ l.length ∧ Hid (lx l ⟨bt, bl, bh⟩ (⟨n0, d0⟩, ⟨n1, d1⟩) k = (⟨a0, a1⟩, ⟨c0, c1⟩)) ∧ wr.heap[g]? = some (.cells cur 37 (0, 0)) ∧ wr.heap[w.heap.size]? = some (.cells #[.int .i64 bt, .int .i64 bl, .int .i64 bh] 37 (0, 0)) ∧ wr.heap[w.heap.size + 1]? = some (.cells #[.int .i64 a0, .int .i64 a1] 26 (0, 0)) ∧ wr.heap[w.heap.size + 2]? = some (.cells #[.int .i64 c0, .int .i64 c1] 26 (0, 0)) ∧ wr.heap[w.heap.size + 3]? = some (.cells #[.int .i64 0, .int .i64 0] 26 (0, 0)) ∧ wr.heap[w.heap.size + 4]? = some (.cells #[.int .i64 0, .int .i64 0] 26 (0, 0)) ∧ Below w.heap.size w wr) (fun vi _ => l.length - (intOf vi).toNat)
  case atStart => exact ⟨0, n0, d0, n1, d1, rfl, by omega, z0, (ka (ka (ka (ka (ka (hg) (.cells #[.int .i64 bt, .int .i64 bl, .int .i64 bh] 37)) (.cells #[.int .i64 n0, .int .i64 d0] 26)) (.cells #[.int .i64 n1, .int .i64 d1] 26)) (.cells #[.int .i64 0, .int .i64 0] 26)) (.cells #[.int .i64 0, .int .i64 0] 26)), (ka (ka (ka (ka (na w #[.int .i64 bt, .int .i64 bl, .int .i64 bh] 37) (.cells #[.int .i64 n0, .int .i64 d0] 26)) (.cells #[.int .i64 n1, .int .i64 d1] 26)) (.cells #[.int .i64 0, .int .i64 0] 26)) (.cells #[.int .i64 0, .int .i64 0] 26)), (ka (ka (ka (na1 w (.cells #[.int .i64 bt, .int .i64 bl, .int .i64 bh] 37) #[.int .i64 n0, .int .i64 d0] 26) (.cells #[.int .i64 n1, .int .i64 d1] 26)) (.cells #[.int .i64 0, .int .i64 0] 26)) (.cells #[.int .i64 0, .int .i64 0] 26)), (ka (ka (na2 w (.cells #[.int .i64 bt, .int .i64 bl, .int .i64 bh] 37) (.cells #[.int .i64 n0, .int .i64 d0] 26) #[.int .i64 n1, .int .i64 d1] 26) (.cells #[.int .i64 0, .int .i64 0] 26)) (.cells #[.int .i64 0, .int .i64 0] 26)), (ka (na3 w (.cells #[.int .i64 bt, .int .i64 bl, .int .i64 bh] 37) (.cells #[.int .i64 n0, .int .i64 d0] 26) (.cells #[.int .i64 n1, .int .i64 d1] 26) #[.int .i64 0, .int .i64 0] 26) (.cells #[.int .i64 0, .int .i64 0] 26)), (na4 w (.cells #[.int .i64 bt, .int .i64 bl, .int .i64 bh] 37) (.cells #[.int .i64 n0, .int .i64 d0] 26) (.cells #[.int .i64 n1, .int .i64 d1] 26) (.cells #[.int .i64 0, .int .i64 0] 26) #[.int .i64 0, .int .i64 0] 26), (bA (bA (bA (bA (bA (b0 w) (.cells #[.int .i64 bt, .int .i64 bl, .int .i64 bh] 37)) (.cells #[.int .i64 n0, .int .i64 d0] 26)) (.cells #[.int .i64 n1, .int .i64 d1] 26)) (.cells #[.int .i64 0, .int .i64 0] 26)) (.cells #[.int .i64 0, .int .i64 0] 26))⟩
  case round =>
    obtain ⟨k, a0, a1, c0, c1, rfl, hk, hx, j0, j1, j2, j3, j4, j5, hb⟩ := hrel
    by_cases hlt : k < l.length
    · obtain ⟨q1, q2, q3⟩ := HC.out k hlt
      obtain ⟨⟨r1, r2⟩, ⟨r3, r4⟩, r5, r6⟩ := hl.out k hlt
      have hst := hs.out k (by omega)
      rw [hx.out] at hst
      obtain ⟨s1, s2⟩ := hst
      have hx1 : Hid (lx l ⟨bt, bl, bh⟩ (⟨n0, d0⟩, ⟨n1, d1⟩) (k + 1) = let1 ⟨bt, bl, bh⟩ (⟨a0, a1⟩, ⟨c0, c1⟩) (bd l k)) := hide (by rw [lx, hx.out])
      generalize bd l k = a at *
      obtain ⟨at_, al, ah⟩ := a
      simp only at q1 q2 q3 r1 r2 r3 r4 r5 r6
      obtain ⟨zg_a, zg_b, lg1⟩ := rcell j0
      obtain ⟨zb_a, zb_b, lb2⟩ := rcell j1
      obtain ⟨zp_a, zp_b, lp3⟩ := rcell j2
      obtain ⟨zq_a, zq_b, lq4⟩ := rcell j3
      obtain ⟨zu_a, zu_b, lu5⟩ := rcell j4
      obtain ⟨zv_a, zv_b, lv6⟩ := rcell j5
      have m1 : slB (bl - ah) (bt - at_) = true := decide_eq_true ⟨by omega, by omega, by omega, by omega⟩
      have m2 : slB (bh - al) (bt - at_) = true := decide_eq_true ⟨by omega, by omega, by omega, by omega⟩
      have L1 := ref10_Less a0 a1 (bl - ah) (bt - at_) s1 m1
      have L2 := ref10_Less (bh - al) (bt - at_) c0 c1 m2 s2
      clear m1 m2 s1 s2
      cases e1 : decide (a0 * (bt - at_) < (bl - ah) * a1)
      · rw [e1] at L1
        go_wp2_with fail
        refine (L1 _).mono ?_
        rintro e w7 ⟨rfl, hb7⟩
        have f_g7 := kp hb7 (ka (ka (ka (j0) (.cells #[.int .i64 at_, .int .i64 al, .int .i64 ah] 37)) (.cells #[.int .i64 (bl - ah), .int .i64 (bt - at_)] 26)) (.cells #[.int .i64 (bh - al), .int .i64 (bt - at_)] 26))
        have f_b7 := kp hb7 (ka (ka (ka (j1) (.cells #[.int .i64 at_, .int .i64 al, .int .i64 ah] 37)) (.cells #[.int .i64 (bl - ah), .int .i64 (bt - at_)] 26)) (.cells #[.int .i64 (bh - al), .int .i64 (bt - at_)] 26))
        have f_p7 := kp hb7 (ka (ka (ka (j2) (.cells #[.int .i64 at_, .int .i64 al, .int .i64 ah] 37)) (.cells #[.int .i64 (bl - ah), .int .i64 (bt - at_)] 26)) (.cells #[.int .i64 (bh - al), .int .i64 (bt - at_)] 26))
        have f_q7 := kp hb7 (ka (ka (ka (j3) (.cells #[.int .i64 at_, .int .i64 al, .int .i64 ah] 37)) (.cells #[.int .i64 (bl - ah), .int .i64 (bt - at_)] 26)) (.cells #[.int .i64 (bh - al), .int .i64 (bt - at_)] 26))
        have f_u7 := kp hb7 (ka (ka (ka (j4) (.cells #[.int .i64 at_, .int .i64 al, .int .i64 ah] 37)) (.cells #[.int .i64 (bl - ah), .int .i64 (bt - at_)] 26)) (.cells #[.int .i64 (bh - al), .int .i64 (bt - at_)] 26))
        have f_v7 := kp hb7 (ka (ka (ka (j5) (.cells #[.int .i64 at_, .int .i64 al, .int .i64 ah] 37)) (.cells #[.int .i64 (bl - ah), .int .i64 (bt - at_)] 26)) (.cells #[.int .i64 (bh - al), .int .i64 (bt - at_)] 26))
        have f_e7 := kp hb7 (ka (ka (na wr #[.int .i64 at_, .int .i64 al, .int .i64 ah] 37) (.cells #[.int .i64 (bl - ah), .int .i64 (bt - at_)] 26)) (.cells #[.int .i64 (bh - al), .int .i64 (bt - at_)] 26))
        have f_x7 := kp hb7 (ka (na1 wr (.cells #[.int .i64 at_, .int .i64 al, .int .i64 ah] 37) #[.int .i64 (bl - ah), .int .i64 (bt - at_)] 26) (.cells #[.int .i64 (bh - al), .int .i64 (bt - at_)] 26))
        have f_y7 := kp hb7 (na2 wr (.cells #[.int .i64 at_, .int .i64 al, .int .i64 ah] 37) (.cells #[.int .i64 (bl - ah), .int .i64 (bt - at_)] 26) #[.int .i64 (bh - al), .int .i64 (bt - at_)] 26)
        have hB7 := bB (bA (bA (bA hb (.cells #[.int .i64 at_, .int .i64 al, .int .i64 ah] 37)) (.cells #[.int .i64 (bl - ah), .int .i64 (bt - at_)] 26)) (.cells #[.int .i64 (bh - al), .int .i64 (bt - at_)] 26)) hb7
        clear zb_a zb_b zg_a zg_b zp_a zp_b zq_a zq_b zu_a zu_b zv_a zv_b
        obtain ⟨zg_a, zg_b, lg7⟩ := rcell f_g7
        obtain ⟨zb_a, zb_b, lb7⟩ := rcell f_b7
        obtain ⟨zp_a, zp_b, lp7⟩ := rcell f_p7
        obtain ⟨zq_a, zq_b, lq7⟩ := rcell f_q7
        obtain ⟨zu_a, zu_b, lu7⟩ := rcell f_u7
        obtain ⟨zv_a, zv_b, lv7⟩ := rcell f_v7
        obtain ⟨ze_a, ze_b, le7⟩ := rcell f_e7
        obtain ⟨zx_a, zx_b, lx7⟩ := rcell f_x7
        obtain ⟨zy_a, zy_b, ly7⟩ := rcell f_y7
        cases e2 : decide ((bh - al) * c1 < c0 * (bt - at_))
        · rw [e2] at L2
          go_wp2_with fail
          refine (L2 _).mono ?_
          rintro e w8 ⟨rfl, hb8⟩
          have f_g8 := kp hb8 (f_g7)
          have f_b8 := kp hb8 (f_b7)
          have f_p8 := kp hb8 (f_p7)
          have f_q8 := kp hb8 (f_q7)
          have f_u8 := kp hb8 (f_u7)
          have f_v8 := kp hb8 (f_v7)
          have f_e8 := kp hb8 (f_e7)
          have f_x8 := kp hb8 (f_x7)
          have f_y8 := kp hb8 (f_y7)
          have hB8 := bB hB7 hb8
          clear zb_a zb_b ze_a ze_b zg_a zg_b zp_a zp_b zq_a zq_b zu_a zu_b zv_a zv_b zx_a zx_b zy_a zy_b
          obtain ⟨zg_a, zg_b, lg8⟩ := rcell f_g8
          obtain ⟨zb_a, zb_b, lb8⟩ := rcell f_b8
          obtain ⟨zp_a, zp_b, lp8⟩ := rcell f_p8
          obtain ⟨zq_a, zq_b, lq8⟩ := rcell f_q8
          obtain ⟨zu_a, zu_b, lu8⟩ := rcell f_u8
          obtain ⟨zv_a, zv_b, lv8⟩ := rcell f_v8
          obtain ⟨ze_a, ze_b, le8⟩ := rcell f_e8
          obtain ⟨zx_a, zx_b, lx8⟩ := rcell f_x8
          obtain ⟨zy_a, zy_b, ly8⟩ := rcell f_y8
          go_wp2_with fail
          go_wp2
          go_roundw
          case rel => exact ⟨k + 1, a0, a1, c0, c1, by go_num, by omega, hide (by rw [hx1.out]; unfold let1 Sl.lt lo2 hi2; simp only [e1, e2]; rfl), (f_g8), (f_b8), (f_p8), (f_q8), (f_u8), (f_v8), hB8⟩
          case measure => simp [intOf]; omega
        · skip
          rw [e2] at L2
          go_wp2_with fail
          refine (L2 _).mono ?_
          rintro e w8 ⟨rfl, hb8⟩
          have f_g8 := kp hb8 (f_g7)
          have f_b8 := kp hb8 (f_b7)
          have f_p8 := kp hb8 (f_p7)
          have f_q8 := kp hb8 (f_q7)
          have f_u8 := kp hb8 (f_u7)
          have f_v8 := kp hb8 (f_v7)
          have f_e8 := kp hb8 (f_e7)
          have f_x8 := kp hb8 (f_x7)
          have f_y8 := kp hb8 (f_y7)
          have hB8 := bB hB7 hb8
          clear zb_a zb_b ze_a ze_b zg_a zg_b zp_a zp_b zq_a zq_b zu_a zu_b zv_a zv_b zx_a zx_b zy_a zy_b
          obtain ⟨zg_a, zg_b, lg8⟩ := rcell f_g8
          obtain ⟨zb_a, zb_b, lb8⟩ := rcell f_b8
          obtain ⟨zp_a, zp_b, lp8⟩ := rcell f_p8
          obtain ⟨zq_a, zq_b, lq8⟩ := rcell f_q8
          obtain ⟨zu_a, zu_b, lu8⟩ := rcell f_u8
          obtain ⟨zv_a, zv_b, lv8⟩ := rcell f_v8
          obtain ⟨ze_a, ze_b, le8⟩ := rcell f_e8
          obtain ⟨zx_a, zx_b, lx8⟩ := rcell f_x8
          obtain ⟨zy_a, zy_b, ly8⟩ := rcell f_y8
          go_wp2_with fail
          rw [row2 f_q8]
          generalize hT9 : setRow _ _ _ = w9
          obtain ⟨hx9, f_q9⟩ := fin_x (b0 _) f_q8 hT9
          clear hT9
          have f_g9 := kx hx9 (f_g8) (by omega)
          have f_b9 := kx hx9 (f_b8) (by omega)
          have f_p9 := kx hx9 (f_p8) (by omega)
          have f_u9 := kx hx9 (f_u8) (by omega)
          have f_v9 := kx hx9 (f_v8) (by omega)
          have f_e9 := kx hx9 (f_e8) (by omega)
          have f_x9 := kx hx9 (f_x8) (by omega)
          have f_y9 := kx hx9 (f_y8) (by omega)
          have hB9 := bX hB8 hx9 (by omega)
          clear zb_a zb_b ze_a ze_b zg_a zg_b zp_a zp_b zq_a zq_b zu_a zu_b zv_a zv_b zx_a zx_b zy_a zy_b
          obtain ⟨zg_a, zg_b, lg9⟩ := rcell f_g9
          obtain ⟨zb_a, zb_b, lb9⟩ := rcell f_b9
          obtain ⟨zp_a, zp_b, lp9⟩ := rcell f_p9
          obtain ⟨zu_a, zu_b, lu9⟩ := rcell f_u9
          obtain ⟨zv_a, zv_b, lv9⟩ := rcell f_v9
          obtain ⟨ze_a, ze_b, le9⟩ := rcell f_e9
          obtain ⟨zx_a, zx_b, lx9⟩ := rcell f_x9
          obtain ⟨zy_a, zy_b, ly9⟩ := rcell f_y9
          obtain ⟨zq_a, zq_b, lq9⟩ := rcell f_q9
          go_wp2
          go_roundw
          case rel => exact ⟨k + 1, a0, a1, bh - al, bt - at_, by go_num, by omega, hide (by rw [hx1.out]; unfold let1 Sl.lt lo2 hi2; simp only [e1, e2]; rfl), (f_g9), (f_b9), (f_p9), (f_q9), (f_u9), (f_v9), hB9⟩
          case measure => simp [intOf]; omega
      · rw [e1] at L1
        go_wp2_with fail
        refine (L1 _).mono ?_
        rintro e w7 ⟨rfl, hb7⟩
        have f_g7 := kp hb7 (ka (ka (ka (j0) (.cells #[.int .i64 at_, .int .i64 al, .int .i64 ah] 37)) (.cells #[.int .i64 (bl - ah), .int .i64 (bt - at_)] 26)) (.cells #[.int .i64 (bh - al), .int .i64 (bt - at_)] 26))
        have f_b7 := kp hb7 (ka (ka (ka (j1) (.cells #[.int .i64 at_, .int .i64 al, .int .i64 ah] 37)) (.cells #[.int .i64 (bl - ah), .int .i64 (bt - at_)] 26)) (.cells #[.int .i64 (bh - al), .int .i64 (bt - at_)] 26))
        have f_p7 := kp hb7 (ka (ka (ka (j2) (.cells #[.int .i64 at_, .int .i64 al, .int .i64 ah] 37)) (.cells #[.int .i64 (bl - ah), .int .i64 (bt - at_)] 26)) (.cells #[.int .i64 (bh - al), .int .i64 (bt - at_)] 26))
        have f_q7 := kp hb7 (ka (ka (ka (j3) (.cells #[.int .i64 at_, .int .i64 al, .int .i64 ah] 37)) (.cells #[.int .i64 (bl - ah), .int .i64 (bt - at_)] 26)) (.cells #[.int .i64 (bh - al), .int .i64 (bt - at_)] 26))
        have f_u7 := kp hb7 (ka (ka (ka (j4) (.cells #[.int .i64 at_, .int .i64 al, .int .i64 ah] 37)) (.cells #[.int .i64 (bl - ah), .int .i64 (bt - at_)] 26)) (.cells #[.int .i64 (bh - al), .int .i64 (bt - at_)] 26))
        have f_v7 := kp hb7 (ka (ka (ka (j5) (.cells #[.int .i64 at_, .int .i64 al, .int .i64 ah] 37)) (.cells #[.int .i64 (bl - ah), .int .i64 (bt - at_)] 26)) (.cells #[.int .i64 (bh - al), .int .i64 (bt - at_)] 26))
        have f_e7 := kp hb7 (ka (ka (na wr #[.int .i64 at_, .int .i64 al, .int .i64 ah] 37) (.cells #[.int .i64 (bl - ah), .int .i64 (bt - at_)] 26)) (.cells #[.int .i64 (bh - al), .int .i64 (bt - at_)] 26))
        have f_x7 := kp hb7 (ka (na1 wr (.cells #[.int .i64 at_, .int .i64 al, .int .i64 ah] 37) #[.int .i64 (bl - ah), .int .i64 (bt - at_)] 26) (.cells #[.int .i64 (bh - al), .int .i64 (bt - at_)] 26))
        have f_y7 := kp hb7 (na2 wr (.cells #[.int .i64 at_, .int .i64 al, .int .i64 ah] 37) (.cells #[.int .i64 (bl - ah), .int .i64 (bt - at_)] 26) #[.int .i64 (bh - al), .int .i64 (bt - at_)] 26)
        have hB7 := bB (bA (bA (bA hb (.cells #[.int .i64 at_, .int .i64 al, .int .i64 ah] 37)) (.cells #[.int .i64 (bl - ah), .int .i64 (bt - at_)] 26)) (.cells #[.int .i64 (bh - al), .int .i64 (bt - at_)] 26)) hb7
        clear zb_a zb_b zg_a zg_b zp_a zp_b zq_a zq_b zu_a zu_b zv_a zv_b
        obtain ⟨zg_a, zg_b, lg7⟩ := rcell f_g7
        obtain ⟨zb_a, zb_b, lb7⟩ := rcell f_b7
        obtain ⟨zp_a, zp_b, lp7⟩ := rcell f_p7
        obtain ⟨zq_a, zq_b, lq7⟩ := rcell f_q7
        obtain ⟨zu_a, zu_b, lu7⟩ := rcell f_u7
        obtain ⟨zv_a, zv_b, lv7⟩ := rcell f_v7
        obtain ⟨ze_a, ze_b, le7⟩ := rcell f_e7
        obtain ⟨zx_a, zx_b, lx7⟩ := rcell f_x7
        obtain ⟨zy_a, zy_b, ly7⟩ := rcell f_y7
        go_wp2_with fail
        rw [row2 f_p7]
        generalize hT8 : setRow _ _ _ = w8
        obtain ⟨hx8, f_p8⟩ := fin_x (b0 _) f_p7 hT8
        clear hT8
        have f_g8 := kx hx8 (f_g7) (by omega)
        have f_b8 := kx hx8 (f_b7) (by omega)
        have f_q8 := kx hx8 (f_q7) (by omega)
        have f_u8 := kx hx8 (f_u7) (by omega)
        have f_v8 := kx hx8 (f_v7) (by omega)
        have f_e8 := kx hx8 (f_e7) (by omega)
        have f_x8 := kx hx8 (f_x7) (by omega)
        have f_y8 := kx hx8 (f_y7) (by omega)
        have hB8 := bX hB7 hx8 (by omega)
        clear zb_a zb_b ze_a ze_b zg_a zg_b zp_a zp_b zq_a zq_b zu_a zu_b zv_a zv_b zx_a zx_b zy_a zy_b
        obtain ⟨zg_a, zg_b, lg8⟩ := rcell f_g8
        obtain ⟨zb_a, zb_b, lb8⟩ := rcell f_b8
        obtain ⟨zq_a, zq_b, lq8⟩ := rcell f_q8
        obtain ⟨zu_a, zu_b, lu8⟩ := rcell f_u8
        obtain ⟨zv_a, zv_b, lv8⟩ := rcell f_v8
        obtain ⟨ze_a, ze_b, le8⟩ := rcell f_e8
        obtain ⟨zx_a, zx_b, lx8⟩ := rcell f_x8
        obtain ⟨zy_a, zy_b, ly8⟩ := rcell f_y8
        obtain ⟨zp_a, zp_b, lp8⟩ := rcell f_p8
        cases e2 : decide ((bh - al) * c1 < c0 * (bt - at_))
        · rw [e2] at L2
          go_wp2_with fail
          refine (L2 _).mono ?_
          rintro e w9 ⟨rfl, hb9⟩
          have f_g9 := kp hb9 (f_g8)
          have f_b9 := kp hb9 (f_b8)
          have f_q9 := kp hb9 (f_q8)
          have f_u9 := kp hb9 (f_u8)
          have f_v9 := kp hb9 (f_v8)
          have f_e9 := kp hb9 (f_e8)
          have f_x9 := kp hb9 (f_x8)
          have f_y9 := kp hb9 (f_y8)
          have f_p9 := kp hb9 (f_p8)
          have hB9 := bB hB8 hb9
          clear zb_a zb_b ze_a ze_b zg_a zg_b zp_a zp_b zq_a zq_b zu_a zu_b zv_a zv_b zx_a zx_b zy_a zy_b
          obtain ⟨zg_a, zg_b, lg9⟩ := rcell f_g9
          obtain ⟨zb_a, zb_b, lb9⟩ := rcell f_b9
          obtain ⟨zq_a, zq_b, lq9⟩ := rcell f_q9
          obtain ⟨zu_a, zu_b, lu9⟩ := rcell f_u9
          obtain ⟨zv_a, zv_b, lv9⟩ := rcell f_v9
          obtain ⟨ze_a, ze_b, le9⟩ := rcell f_e9
          obtain ⟨zx_a, zx_b, lx9⟩ := rcell f_x9
          obtain ⟨zy_a, zy_b, ly9⟩ := rcell f_y9
          obtain ⟨zp_a, zp_b, lp9⟩ := rcell f_p9
          go_wp2_with fail
          go_wp2
          go_roundw
          case rel => exact ⟨k + 1, bl - ah, bt - at_, c0, c1, by go_num, by omega, hide (by rw [hx1.out]; unfold let1 Sl.lt lo2 hi2; simp only [e1, e2]; rfl), (f_g9), (f_b9), (f_p9), (f_q9), (f_u9), (f_v9), hB9⟩
          case measure => simp [intOf]; omega
        · skip
          rw [e2] at L2
          go_wp2_with fail
          refine (L2 _).mono ?_
          rintro e w9 ⟨rfl, hb9⟩
          have f_g9 := kp hb9 (f_g8)
          have f_b9 := kp hb9 (f_b8)
          have f_q9 := kp hb9 (f_q8)
          have f_u9 := kp hb9 (f_u8)
          have f_v9 := kp hb9 (f_v8)
          have f_e9 := kp hb9 (f_e8)
          have f_x9 := kp hb9 (f_x8)
          have f_y9 := kp hb9 (f_y8)
          have f_p9 := kp hb9 (f_p8)
          have hB9 := bB hB8 hb9
          clear zb_a zb_b ze_a ze_b zg_a zg_b zp_a zp_b zq_a zq_b zu_a zu_b zv_a zv_b zx_a zx_b zy_a zy_b
          obtain ⟨zg_a, zg_b, lg9⟩ := rcell f_g9
          obtain ⟨zb_a, zb_b, lb9⟩ := rcell f_b9
          obtain ⟨zq_a, zq_b, lq9⟩ := rcell f_q9
          obtain ⟨zu_a, zu_b, lu9⟩ := rcell f_u9
          obtain ⟨zv_a, zv_b, lv9⟩ := rcell f_v9
          obtain ⟨ze_a, ze_b, le9⟩ := rcell f_e9
          obtain ⟨zx_a, zx_b, lx9⟩ := rcell f_x9
          obtain ⟨zy_a, zy_b, ly9⟩ := rcell f_y9
          obtain ⟨zp_a, zp_b, lp9⟩ := rcell f_p9
          go_wp2_with fail
          rw [row2 f_q9]
          generalize hT10 : setRow _ _ _ = w10
          obtain ⟨hx10, f_q10⟩ := fin_x (b0 _) f_q9 hT10
          clear hT10
          have f_g10 := kx hx10 (f_g9) (by omega)
          have f_b10 := kx hx10 (f_b9) (by omega)
          have f_u10 := kx hx10 (f_u9) (by omega)
          have f_v10 := kx hx10 (f_v9) (by omega)
          have f_e10 := kx hx10 (f_e9) (by omega)
          have f_x10 := kx hx10 (f_x9) (by omega)
          have f_y10 := kx hx10 (f_y9) (by omega)
          have f_p10 := kx hx10 (f_p9) (by omega)
          have hB10 := bX hB9 hx10 (by omega)
          clear zb_a zb_b ze_a ze_b zg_a zg_b zp_a zp_b zq_a zq_b zu_a zu_b zv_a zv_b zx_a zx_b zy_a zy_b
          obtain ⟨zg_a, zg_b, lg10⟩ := rcell f_g10
          obtain ⟨zb_a, zb_b, lb10⟩ := rcell f_b10
          obtain ⟨zu_a, zu_b, lu10⟩ := rcell f_u10
          obtain ⟨zv_a, zv_b, lv10⟩ := rcell f_v10
          obtain ⟨ze_a, ze_b, le10⟩ := rcell f_e10
          obtain ⟨zx_a, zx_b, lx10⟩ := rcell f_x10
          obtain ⟨zy_a, zy_b, ly10⟩ := rcell f_y10
          obtain ⟨zp_a, zp_b, lp10⟩ := rcell f_p10
          obtain ⟨zq_a, zq_b, lq10⟩ := rcell f_q10
          go_wp2
          go_roundw
          case rel => exact ⟨k + 1, bl - ah, bt - at_, bh - al, bt - at_, by go_num, by omega, hide (by rw [hx1.out]; unfold let1 Sl.lt lo2 hi2; simp only [e1, e2]; rfl), (f_g10), (f_b10), (f_p10), (f_q10), (f_u10), (f_v10), hB10⟩
          case measure => simp [intOf]; omega
    · obtain rfl : k = l.length := by omega
      have he := hx.out.symm.trans hE.out
      injection he with h1 h2
      subst h1 h2
      clear hE hx
      obtain ⟨zg_a, zg_b, lg11⟩ := rcell j0
      obtain ⟨zb_a, zb_b, lb12⟩ := rcell j1
      obtain ⟨zp_a, zp_b, lp13⟩ := rcell j2
      obtain ⟨zq_a, zq_b, lq14⟩ := rcell j3
      obtain ⟨zu_a, zu_b, lu15⟩ := rcell j4
      obtain ⟨zv_a, zv_b, lv16⟩ := rcell j5
      go_wp2_with fail
      refine Abs.wp_region_abs (Abs.cls _ (fun k => k = w.heap.size + 3 ∨ k = w.heap.size + 4)) [0, 1, 2, 3] (by kernel_rfl) (by kernel_rfl) (Below.refl _ _).drew ?_
      repeat (first | (refine Abs.step_pure rfl rfl (fun K hK => ?_); go_simp; (try go_bits); (first | refine hK _ _ ?_ | (simp only [↓IntWalk.iteOmega]; go_simp; (try go_bits); refine hK _ _ ?_)); clear hK K) | (refine Abs.step_late (v := ?_) rfl rfl (fun w0 hI => ?_) (fun K hK => ?_); rotate_left; (· have z0 := (rcell (kj hI (j2) (by omega))).1; have z1 := (rcell (kj hI (j3) (by omega))).1; go_simp; rfl); (simp only [Act.put, List.setIfInBounds_toArray, List.set_cons_zero, List.set_cons_succ]; refine hK _ _ ?_; clear hK K)) | (refine Abs.step_skip rfl rfl (fun K hK => ?_); (simp only [Act.put, List.setIfInBounds_toArray, List.set_cons_zero, List.set_cons_succ]; refine hK _ _ ?_; clear hK K)))
      (refine Abs.step_store (T := ?_) rfl rfl rfl (fun w0 hI hF hU => ?_) (fun w0 hI hU hJ => ?_) (fun K hK => ?_); rotate_left; (· have hR := kp hI (j4); have hg0 := (rcell hR).1; have hg1 := (rcell hR).2.1; simp only [Abs.T_setF, Abs.T_addA, Abs.T_push, Abs.T_start]; go_simp; exact row2 hR _ _); (· first | exact trivial | exact js hJ rfl _ | exact js hJ (Or.inl rfl) _ | exact js hJ (Or.inr rfl) _); (simp only [Act.put, List.setIfInBounds_toArray, List.set_cons_zero, List.set_cons_succ]; refine hK _ _ ?_; clear hK K))
      (refine Abs.step_store (T := ?_) rfl rfl rfl (fun w0 hI hF hU => ?_) (fun w0 hI hU hJ => ?_) (fun K hK => ?_); rotate_left; (· have hR := fun cs => (setRow_other (w := w0) (g := w.heap.size + 3) cs (by omega)).trans (kp hI (j5)); have hg0 := fun cs => (rcell (hR cs)).1; have hg1 := fun cs => (rcell (hR cs)).2.1; simp only [Abs.T_setF, Abs.T_addA, Abs.T_push, Abs.T_start]; go_simp; exact row2 (hR _) _ _); (· first | exact trivial | exact js hJ rfl _ | exact js hJ (Or.inl rfl) _ | exact js hJ (Or.inr rfl) _); (simp only [Act.put, List.setIfInBounds_toArray, List.set_cons_zero, List.set_cons_succ]; refine hK _ _ ?_; clear hK K))
      intro w0 hI hF hx1 hx2
      clear hx1 hx2 hF
      simp only [Abs.T_push]
      generalize hT18 : setRow w0 _ _ = w18
      obtain ⟨hx18, f_u18⟩ := fin_x hI (j4) hT18
      clear hT18 hI w0
      have f_g18 := kx hx18 (j0) (by omega)
      have f_b18 := kx hx18 (j1) (by omega)
      have f_p18 := kx hx18 (j2) (by omega)
      have f_q18 := kx hx18 (j3) (by omega)
      have f_v18 := kx hx18 (j5) (by omega)
      have hB18 := bX hb hx18 (by omega)
      clear zb_a zb_b zg_a zg_b zp_a zp_b zq_a zq_b zu_a zu_b zv_a zv_b
      obtain ⟨zg_a, zg_b, lg18⟩ := rcell f_g18
      obtain ⟨zb_a, zb_b, lb18⟩ := rcell f_b18
      obtain ⟨zp_a, zp_b, lp18⟩ := rcell f_p18
      obtain ⟨zq_a, zq_b, lq18⟩ := rcell f_q18
      obtain ⟨zv_a, zv_b, lv18⟩ := rcell f_v18
      obtain ⟨zu_a, zu_b, lu18⟩ := rcell f_u18
      generalize hT19 : setRow w18 _ _ = w19
      obtain ⟨hx19, f_v19⟩ := fin_x (b0 _) f_v18 hT19
      clear hT19
      have f_g19 := kx hx19 (f_g18) (by omega)
      have f_b19 := kx hx19 (f_b18) (by omega)
      have f_p19 := kx hx19 (f_p18) (by omega)
      have f_q19 := kx hx19 (f_q18) (by omega)
      have f_u19 := kx hx19 (f_u18) (by omega)
      have hB19 := bX hB18 hx19 (by omega)
      clear zb_a zb_b zg_a zg_b zp_a zp_b zq_a zq_b zu_a zu_b zv_a zv_b
      obtain ⟨zg_a, zg_b, lg19⟩ := rcell f_g19
      obtain ⟨zb_a, zb_b, lb19⟩ := rcell f_b19
      obtain ⟨zp_a, zp_b, lp19⟩ := rcell f_p19
      obtain ⟨zq_a, zq_b, lq19⟩ := rcell f_q19
      obtain ⟨zu_a, zu_b, lu19⟩ := rcell f_u19
      obtain ⟨zv_a, zv_b, lv19⟩ := rcell f_v19
      go_wp2_with fail
      refine bodyPost_ret (by simp [results, Tryd.results47, go_sem, zu_a, zv_a]; try rfl) rfl ⟨rfl, hB19⟩
end Go.Proofs.YtpimkigbdjfjoaaDoor
