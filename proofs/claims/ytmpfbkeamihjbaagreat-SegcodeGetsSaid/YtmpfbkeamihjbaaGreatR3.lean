/- yearbookref02 at this program: Bytes, Sign, Signed, Unsign. yearbookref02 at this program: Get, Number. yearbookref02 at this program: Number. -/
import Derived.Test.YtmpfbkeamihjbaaGreatR2
import Derived.Test.YtmpfbkeamihjbaaGreatQ2
import Derived.Test.YtmpfbkeamihjbaaGreatQ3
import Derived.Test.YtmpfbkeamihjbaaGreatR7
set_option linter.unusedSimpArgs false
set_option linter.unusedVariables false
namespace Go.Proofs.YtmpfbkeamihjbaaGreat
open Go.RowKit
attribute [local go_sem] Oper.semAt_some

/-- a call that hands back bytes -/
def GivesY (l : List Int) (w : World) (e : Ending) (w' : World) : Prop := ∃ A c n, e = .returned (.slice A n c) ∧ Hid (n = l.length) ∧ YR w' A c l ∧ Below w.heap.size w w'

set_option maxRecDepth 100000 in
theorem ref02_Unsign (n : Nat) (hn : n < 18446744073709551616) (x : Int) (hx : x = (n : Int)) (w : World) :
    Calls Tryz.prog 114 #[.int .u64 x] w fun e w' => e = .returned (.int .i64 (unfold' n)) ∧ w = w' := by
  obtain ⟨y, hy⟩ : ∃ y, x.tdiv 2 = y := ⟨_, rfl⟩
  obtain ⟨z, hz⟩ : ∃ z, x.tmod 2 = z := ⟨_, rfl⟩
  have ey : y = ((n / 2 : Nat) : Int) := by rw [← hy, hx, Int.tdiv_eq_ediv_of_nonneg (by omega)]; omega
  have ez : z = ((n % 2 : Nat) : Int) := by rw [← hz, hx, Int.tmod_eq_emod_of_nonneg (by omega)]; omega
  have hw1 : IntKind.u64.wrap y = y := by simp [IntKind.wrap, IntKind.bits, IntKind.signed]; omega
  have hw2 : IntKind.u64.wrap z = z := by simp [IntKind.wrap, IntKind.bits, IntKind.signed]; omega
  have hw3 : wrap64 y = y := by unfold wrap64; omega
  by_cases h0 : n % 2 = 0
  · have d0 : (z == 0) = true := by simp; omega
    have hres : Hid (unfold' n = y) := hide (by unfold unfold'; rw [if_pos h0, ey])
    clear hx ey ez h0
    go_enter Tryz.func114, Tryz.ntmps114
    go_wp2
    go_ret
    exact ⟨by rw [hres.out]; simp [hw3], rfl⟩
  · have d0 : (z == 0) = false := by simp; omega
    have hw4 : wrap64 (-y) = -y := by unfold wrap64; omega
    have hw5 : wrap64 (-y - 1) = -y - 1 := by unfold wrap64; omega
    have hres : Hid (unfold' n = -y - 1) := hide (by unfold unfold'; rw [if_neg h0, ey])
    clear hx ey ez h0
    go_enter Tryz.func114, Tryz.ntmps114
    go_wp2
    go_ret
    exact ⟨by rw [hres.out]; simp [hw3, hw4, hw5], rfl⟩
end Go.Proofs.YtmpfbkeamihjbaaGreat

namespace Go.Proofs.YtmpfbkeamihjbaaGreat
open Go.RowKit
attribute [local go_sem] Oper.semAt_some

/-- the number of some bytes, the low ones first -/
def valU : List Int → Nat
  | [] => 0
  | x :: r => (x % 128).toNat + 128 * valU r
theorem valU_app (x : Int) : ∀ pre : List Int, valU (pre ++ [x]) = valU pre + (x % 128).toNat * 128 ^ pre.length
  | [] => by simp [valU]
  | y :: pre => by
    rw [List.cons_append, valU, valU_app x pre, valU, List.length_cons, Nat.pow_succ, Nat.mul_add]
    rw [show 128 * ((x % 128).toNat * 128 ^ pre.length) = (x % 128).toNat * (128 ^ pre.length * 128) by rw [Nat.mul_comm (128 ^ pre.length) 128, ← Nat.mul_assoc, ← Nat.mul_assoc, Nat.mul_comm 128]]
    omega
theorem valU_drop : ∀ (l : List Int) (k : Nat), valU (l.drop k) ≤ valU l
  | l, 0 => Nat.le_refl _
  | [], k + 1 => by simp
  | x :: l, k + 1 => by
    rw [List.drop_succ_cons, valU]
    have := valU_drop l k
    omega
theorem gt_pre : ∀ (pre : List Int) (i acc : Nat) (rest : List Int), (∀ x ∈ pre, 128 ≤ x) → i + pre.length ≤ 9 → gt (pre ++ rest) i acc = gt rest (i + pre.length) (acc + valU pre * 128 ^ i)
  | [], i, acc, rest, _, _ => by simp [valU]
  | x :: pre, i, acc, rest, h, hi => by
    have hx := h x List.mem_cons_self
    rw [List.length_cons] at hi
    rw [List.cons_append, gt, if_neg (by omega), if_neg (by omega), if_neg (by omega), gt_pre pre (i + 1) _ rest (fun y hy => h y (List.mem_cons_of_mem _ hy)) (by omega), List.length_cons]
    congr 1
    · omega
    · rw [valU, Nat.add_mul, Nat.pow_succ, show 128 * valU pre * 128 ^ i = valU pre * (128 ^ i * 128) by rw [Nat.mul_comm (128 ^ i) 128, ← Nat.mul_assoc, Nat.mul_comm 128]]
      omega
/-- up to a byte -/
theorem gt_at {l : List Int} {j : Nat} (hj : j < l.length) (h9 : j ≤ 9) (hh : ∀ i, i < j → 128 ≤ l.getD i 0) : gt l 0 0 = gt (l.getD j 0 :: l.drop (j + 1)) j (valU (l.take j)) := by
  have e : l = l.take j ++ (l.getD j 0 :: l.drop (j + 1)) := by
    have : l.getD j 0 = l[j] := by simp [hj]
    rw [this, ← List.drop_eq_getElem_cons hj, List.take_append_drop]
  have hlen : (l.take j).length = j := by rw [List.length_take]; omega
  have := gt_pre (l.take j) 0 0 (l.getD j 0 :: l.drop (j + 1)) (fun x hx => by
    obtain ⟨i, hi, rfl⟩ := List.mem_iff_getElem.1 hx
    have := hh i (by omega)
    rw [List.getElem_take]
    simpa [show i < l.length by omega] using this) (by omega)
  rw [← e, hlen] at this
  rw [this]
  simp
theorem valU_take {l : List Int} {j : Nat} (hj : j < l.length) : valU (l.take (j + 1)) = valU (l.take j) + (l.getD j 0 % 128).toNat * 128 ^ j := by
  have hlen : (l.take j).length = j := by rw [List.length_take]; omega
  have e : l.take (j + 1) = l.take j ++ [l.getD j 0] := by
    rw [List.take_add_one]
    simp [hj]
  rw [e, valU_app, hlen]
theorem valU_step {l : List Int} {j k : Nat} (hk : k < j) (hj : j ≤ l.length) : valU ((l.take j).drop k) = (l.getD k 0 % 128).toNat + 128 * valU ((l.take j).drop (k + 1)) := by
  have h : k < (l.take j).length := by rw [List.length_take]; omega
  rw [List.drop_eq_getElem_cons h, valU, List.getElem_take]
  simp [show k < l.length by omega]

/-- what is got: the number, how many bytes it has, no error; or the error -/
def getP2 (r : Except Int (Nat × Nat)) (e : Ending) : Prop :=
  match r with
  | .ok (N, k) => e = .returned (.tuple #[.int .u64 (N : Int), .int .i64 (k : Int), .int .i64 0])
  | .error x => e = .returned (.tuple #[.int .u64 0, .int .i64 0, .int .i64 x])

set_option maxRecDepth 100000 in
set_option maxHeartbeats 16000000 in
theorem ref02_Get (A : Option Addr) (c at' : Nat) (b : List Int) (hB : Byt b) (hat : at' ≤ b.length) (w : World) (hR : YR w A c b) :
    Calls Tryz.prog 72 #[.slice A b.length c, .int .i64 (at' : Int)] w fun e w' => getP2 (gt (b.drop at') 0 0) e ∧ Below w.heap.size w w' := by
  have htop := hR.top
  have hcap := hR.cap
  have dat : decide ((at' : Int) < 0) = false := by simp
  have dal : decide ((b.length : Int) < (at' : Int)) = false := by simp; omega
  by_cases hlt0 : at' < b.length
  · obtain ⟨g, o, cur, rfl, hg, hc⟩ := hR.mem (by omega)
    obtain ⟨L, hL⟩ : ∃ L, b.length = at' + L := ⟨b.length - at', by omega⟩
    have hl : (b.drop at').length = L := by rw [List.length_drop]; omega
    have HC : Hid (∀ i, i < L → cur[o + at' + i]? = some (.int .u8 ((b.drop at').getD i 0)) ∧ 0 ≤ (b.drop at').getD i 0 ∧ (b.drop at').getD i 0 < 256) := hide (fun i hi => by
      have h1 : at' + i < b.length := by omega
      have h2 := hc (at' + i) h1
      have h3 : (b.drop at').getD i 0 = b[at' + i] := by
        rw [List.getD_eq_getElem?_getD, List.getElem?_drop]
        simp [h1]
      rw [h3, Nat.add_assoc]
      exact ⟨h2, hB _ (List.getElem_mem h1)⟩)
    have HGL : Hid (∀ N m, gt (b.drop at') 0 0 = .ok (N, m) → N < 18446744073709551616) := hide (fun N m h => gt_lt _ 0 0 N m (fun x hx => hB x (List.mem_of_mem_drop hx)) (by decide) (by decide) h)
    have hL0 : 0 < L := by omega
    rw [hL] at hcap dal ⊢
    have hcn : ¬ c = at' := by omega
    have HL := hide hl
    clear hc hR hB hlt0 hat hL hl
    generalize b.drop at' = l at *
    go_enter Tryz.func72, Tryz.ntmps72
    obtain ⟨zg_a, zg_b, lg0⟩ := rcell hg
    go_wp2_with fail
    go_loopw [8] (fun vm wr => ∃ m : Nat, vm = .int .i64 m ∧ m ≤ 10 ∧ m ≤ L ∧ Hid (∀ i, i + 1 < m → 128 ≤ l.getD i 0) ∧ wr.heap[g]? = some (.cells cur 5 (0, 0)) ∧ Below w.heap.size w wr) (fun vm _ => L - (intOf vm).toNat)
    case atStart => exact ⟨0, rfl, by omega, by omega, hide (fun i hi => by omega), (hg), (b0 w)⟩
    case round =>
      obtain ⟨m, rfl, hm10, hmL, hhi, j1, hb⟩ := hrel
      rcases m with _ | j
      · have d1 : decide (0 < (L : Int)) = true := decide_eq_true (by omega)
        obtain ⟨zg_a, zg_b, lg1⟩ := rcell j1
        go_wp2
        go_roundw
        case rel => exact ⟨1, by go_num, by omega, by omega, hide (fun i hi => by omega), (j1), hb⟩
        case measure => simp [intOf]; omega
      · obtain ⟨q1, q2, q3⟩ := HC.out j (by omega)
        have hjl : Hid (j < l.length) := hide (by rw [HL.out]; omega)
        have hga : Hid (gt l 0 0 = gt (l.getD j 0 :: l.drop (j + 1)) j (valU (l.take j))) := hide (gt_at hjl.out (by omega) fun i hi => hhi.out i (by omega))
        have hvt := hide (valU_take hjl.out)
        have HX : Hid (l.getD j 0 = l.getD j 0) := hide rfl
        obtain ⟨x, hx⟩ : ∃ x, l.getD j 0 = x := ⟨_, rfl⟩
        rw [hx] at q1 q2 q3 hga hvt
        replace HX := hide hx
        clear hx
        have e0 : ((j : Int) + 1 == 0) = false := by simp; omega
        obtain ⟨zg_a, zg_b, lg2⟩ := rcell j1
        by_cases h10 : j + 1 = 10
        · obtain rfl : j = 9 := by omega
          have f10 : ((10 : Int) == 10) = true := rfl
          by_cases hx1 : 1 < x
          · have d2 : decide (1 < x) = true := decide_eq_true hx1
            have hres : Hid (gt l 0 0 = .error 7) := hide (by rw [hga.out, gt, if_pos ⟨rfl, hx1⟩])
            go_wp2
            go_ret3
            exact ⟨by rw [hres.out]; rfl, hb⟩
          · skip
            have d2 : decide (1 < x) = false := decide_eq_false hx1
            have d3 : decide (128 ≤ x) = false := decide_eq_false (by omega)
            by_cases hx0 : x = 0
            · have d4 : (x == 0) = true := by simp [hx0]
              have hres : Hid (gt l 0 0 = .error 7) := hide (by rw [hga.out, gt, if_neg (by omega), if_pos ⟨hx0, by omega⟩])
              clear hx0
              go_wp2
              go_ret3
              exact ⟨by rw [hres.out]; rfl, hb⟩
            · skip
              have d4 : (x == 0) = false := by simp [hx0]
              have hok : Hid (gt l 0 0 = .ok (valU (l.take (9 + 1)), 9 + 1)) := hide (by rw [hga.out, gt, if_neg (by omega), if_neg (by omega), if_pos (by omega), hvt.out])
              clear hx0
              have hN := HGL.out _ _ hok.out
              have HN := hide hN
              clear hN
              go_wp2_with fail
              go_loopw [9, 10] (fun vn vi wr => ∃ k : Nat, Hid (k ≤ 9 + 1) ∧ k ≤ 10 ∧ vi = .int .i64 ((k : Int) - 1) ∧ vn = .int .u64 (valU ((l.take (9 + 1)).drop k) : Int) ∧ wr.heap[g]? = some (.cells cur 5 (0, 0)) ∧ Below w.heap.size w wr) (fun _ vi _ => (intOf vi + 1).toNat)
              case atStart => exact ⟨9 + 1, hide (Nat.le_refl _), by omega, by go_num, by rw [List.drop_of_length_le (by rw [List.length_take]; omega)]; rfl, (j1), hb⟩
              case round =>
                obtain ⟨k, hk, hk10, rfl, rfl, j1, hb⟩ := hrel
                rcases k with _ | k
                · go_wp2
                  go_ret3
                  exact ⟨by rw [hok.out]; rfl, hb⟩
                · have hkl : k < L := by have := hk.out; omega
                  obtain ⟨r1, r2, r3⟩ := HC.out k hkl
                  have hst := hide (valU_step (l := l) (j := 9 + 1) (k := k) (by have := hk.out; omega) (by rw [HL.out]; omega))
                  have hle := valU_drop (l.take (9 + 1)) k
                  have hNN := HN.out
                  generalize l.getD k 0 = y at *
                  obtain ⟨z, hz⟩ : ∃ z, y.tmod 128 = z := ⟨_, rfl⟩
                  have ez : z = y % 128 := by rw [← hz, Int.tmod_eq_emod_of_nonneg r2]
                  obtain ⟨V, hV⟩ : ∃ V : Int, ((valU ((l.take (9 + 1)).drop (k + 1)) : Nat) : Int) = V := ⟨_, rfl⟩
                  have hV2 : ((valU ((l.take (9 + 1)).drop k) : Nat) : Int) = z + 128 * V := by
                    rw [hst.out, ← hV, ez]
                    push_cast
                    omega
                  have hV0 : 0 ≤ V := by rw [← hV]; omega
                  have hVb : z + 128 * V < 18446744073709551616 := by rw [← hV2]; omega
                  have hw1 : IntKind.u64.wrap (V * 128) = V * 128 := by simp [IntKind.wrap, IntKind.bits, IntKind.signed]; omega
                  have hw2 : IntKind.u8.wrap z = z := by simp [IntKind.wrap, IntKind.bits, IntKind.signed]; omega
                  have hw3 : IntKind.u64.wrap z = z := by simp [IntKind.wrap, IntKind.bits, IntKind.signed]; omega
                  have hw4 : IntKind.u64.wrap (V * 128 + z) = V * 128 + z := by simp [IntKind.wrap, IntKind.bits, IntKind.signed]; omega
                  have HV2 := hide hV2
                  rw [hV]
                  have HV := hide hV
                  clear hV hV2 ez hst hle hNN
                  obtain ⟨zg_a, zg_b, lg3⟩ := rcell j1
                  go_wp2
                  go_roundw
                  case rel => exact ⟨k, hide (Nat.le_of_succ_le hk.out), by omega, by go_num, by rw [HV2.out, Int.mul_comm, Int.add_comm], (j1), hb⟩
                  case measure => simp [intOf] <;> omega
        · skip
          have f10 : ((j : Int) + 1 == 10) = false := by simp; omega
          have g10 : decide ((j : Int) + 1 < 10) = true := decide_eq_true (by omega)
          by_cases hjL : j + 1 < L
          · have d5 : decide ((j : Int) + 1 < (L : Int)) = true := decide_eq_true (by omega)
            by_cases hx8 : 128 ≤ x
            · have d6 : decide (128 ≤ x) = true := decide_eq_true hx8
              have hhi2 : Hid (∀ i, i + 1 < j + 1 + 1 → 128 ≤ l.getD i 0) := hide (fun i hi => by
                by_cases e : i = j
                · rw [e, HX.out]; exact hx8
                · exact hhi.out i (by omega))
              go_wp2
              go_roundw
              case rel => exact ⟨j + 1 + 1, by go_num, by omega, by omega, hhi2, (j1), hb⟩
              case measure => simp [intOf]; omega
            · skip
              have d6 : decide (128 ≤ x) = false := decide_eq_false hx8
              rcases j with _ | j
              · have hok : Hid (gt l 0 0 = .ok (valU (l.take (0 + 1)), 0 + 1)) := hide (by rw [hga.out, gt, if_neg (by omega), if_neg (by omega), if_pos (by omega), hvt.out])
                simp only [Nat.add_zero] at q1
                have hN := HGL.out _ _ hok.out
                have HN := hide hN
                clear hN
                go_wp2_with fail
                go_loopw [9, 10] (fun vn vi wr => ∃ k : Nat, Hid (k ≤ 0 + 1) ∧ k ≤ 10 ∧ vi = .int .i64 ((k : Int) - 1) ∧ vn = .int .u64 (valU ((l.take (0 + 1)).drop k) : Int) ∧ wr.heap[g]? = some (.cells cur 5 (0, 0)) ∧ Below w.heap.size w wr) (fun _ vi _ => (intOf vi + 1).toNat)
                case atStart => exact ⟨0 + 1, hide (Nat.le_refl _), by omega, by go_num, by rw [List.drop_of_length_le (by rw [List.length_take]; omega)]; rfl, (j1), hb⟩
                case round =>
                  obtain ⟨k, hk, hk10, rfl, rfl, j1, hb⟩ := hrel
                  rcases k with _ | k
                  · go_wp2
                    go_ret3
                    exact ⟨by rw [hok.out]; rfl, hb⟩
                  · have hkl : k < L := by have := hk.out; omega
                    obtain ⟨r1, r2, r3⟩ := HC.out k hkl
                    have hst := hide (valU_step (l := l) (j := 0 + 1) (k := k) (by have := hk.out; omega) (by rw [HL.out]; omega))
                    have hle := valU_drop (l.take (0 + 1)) k
                    have hNN := HN.out
                    generalize l.getD k 0 = y at *
                    obtain ⟨z, hz⟩ : ∃ z, y.tmod 128 = z := ⟨_, rfl⟩
                    have ez : z = y % 128 := by rw [← hz, Int.tmod_eq_emod_of_nonneg r2]
                    obtain ⟨V, hV⟩ : ∃ V : Int, ((valU ((l.take (0 + 1)).drop (k + 1)) : Nat) : Int) = V := ⟨_, rfl⟩
                    have hV2 : ((valU ((l.take (0 + 1)).drop k) : Nat) : Int) = z + 128 * V := by
                      rw [hst.out, ← hV, ez]
                      push_cast
                      omega
                    have hV0 : 0 ≤ V := by rw [← hV]; omega
                    have hVb : z + 128 * V < 18446744073709551616 := by rw [← hV2]; omega
                    have hw1 : IntKind.u64.wrap (V * 128) = V * 128 := by simp [IntKind.wrap, IntKind.bits, IntKind.signed]; omega
                    have hw2 : IntKind.u8.wrap z = z := by simp [IntKind.wrap, IntKind.bits, IntKind.signed]; omega
                    have hw3 : IntKind.u64.wrap z = z := by simp [IntKind.wrap, IntKind.bits, IntKind.signed]; omega
                    have hw4 : IntKind.u64.wrap (V * 128 + z) = V * 128 + z := by simp [IntKind.wrap, IntKind.bits, IntKind.signed]; omega
                    have HV2 := hide hV2
                    rw [hV]
                    have HV := hide hV
                    clear hV hV2 ez hst hle hNN
                    obtain ⟨zg_a, zg_b, lg3⟩ := rcell j1
                    go_wp2
                    go_roundw
                    case rel => exact ⟨k, hide (Nat.le_of_succ_le hk.out), by omega, by go_num, by rw [HV2.out, Int.mul_comm, Int.add_comm], (j1), hb⟩
                    case measure => simp [intOf] <;> omega
              · skip
                have dj : decide (1 < (j : Int) + 1 + 1) = true := decide_eq_true (by omega)
                by_cases hx0 : x = 0
                · have d4 : (x == 0) = true := by simp [hx0]
                  have hres : Hid (gt l 0 0 = .error 7) := hide (by rw [hga.out, gt, if_neg (by omega), if_pos ⟨hx0, by omega⟩])
                  clear hx0
                  go_wp2
                  go_ret3
                  exact ⟨by rw [hres.out]; rfl, hb⟩
                · skip
                  have d4 : (x == 0) = false := by simp [hx0]
                  have hok : Hid (gt l 0 0 = .ok (valU (l.take (j + 1 + 1)), j + 1 + 1)) := hide (by rw [hga.out, gt, if_neg (by omega), if_neg (by omega), if_pos (by omega), hvt.out])
                  clear hx0
                  have hN := HGL.out _ _ hok.out
                  have HN := hide hN
                  clear hN
                  go_wp2_with fail
                  go_loopw [9, 10] (fun vn vi wr => ∃ k : Nat, Hid (k ≤ j + 1 + 1) ∧ k ≤ 10 ∧ vi = .int .i64 ((k : Int) - 1) ∧ vn = .int .u64 (valU ((l.take (j + 1 + 1)).drop k) : Int) ∧ wr.heap[g]? = some (.cells cur 5 (0, 0)) ∧ Below w.heap.size w wr) (fun _ vi _ => (intOf vi + 1).toNat)
                  case atStart => exact ⟨j + 1 + 1, hide (Nat.le_refl _), by omega, by go_num, by rw [List.drop_of_length_le (by rw [List.length_take]; omega)]; rfl, (j1), hb⟩
                  case round =>
                    obtain ⟨k, hk, hk10, rfl, rfl, j1, hb⟩ := hrel
                    rcases k with _ | k
                    · go_wp2
                      go_ret3
                      exact ⟨by rw [hok.out]; rfl, hb⟩
                    · have hkl : k < L := by have := hk.out; omega
                      obtain ⟨r1, r2, r3⟩ := HC.out k hkl
                      have hst := hide (valU_step (l := l) (j := j + 1 + 1) (k := k) (by have := hk.out; omega) (by rw [HL.out]; omega))
                      have hle := valU_drop (l.take (j + 1 + 1)) k
                      have hNN := HN.out
                      generalize l.getD k 0 = y at *
                      obtain ⟨z, hz⟩ : ∃ z, y.tmod 128 = z := ⟨_, rfl⟩
                      have ez : z = y % 128 := by rw [← hz, Int.tmod_eq_emod_of_nonneg r2]
                      obtain ⟨V, hV⟩ : ∃ V : Int, ((valU ((l.take (j + 1 + 1)).drop (k + 1)) : Nat) : Int) = V := ⟨_, rfl⟩
                      have hV2 : ((valU ((l.take (j + 1 + 1)).drop k) : Nat) : Int) = z + 128 * V := by
                        rw [hst.out, ← hV, ez]
                        push_cast
                        omega
                      have hV0 : 0 ≤ V := by rw [← hV]; omega
                      have hVb : z + 128 * V < 18446744073709551616 := by rw [← hV2]; omega
                      have hw1 : IntKind.u64.wrap (V * 128) = V * 128 := by simp [IntKind.wrap, IntKind.bits, IntKind.signed]; omega
                      have hw2 : IntKind.u8.wrap z = z := by simp [IntKind.wrap, IntKind.bits, IntKind.signed]; omega
                      have hw3 : IntKind.u64.wrap z = z := by simp [IntKind.wrap, IntKind.bits, IntKind.signed]; omega
                      have hw4 : IntKind.u64.wrap (V * 128 + z) = V * 128 + z := by simp [IntKind.wrap, IntKind.bits, IntKind.signed]; omega
                      have HV2 := hide hV2
                      rw [hV]
                      have HV := hide hV
                      clear hV hV2 ez hst hle hNN
                      obtain ⟨zg_a, zg_b, lg3⟩ := rcell j1
                      go_wp2
                      go_roundw
                      case rel => exact ⟨k, hide (Nat.le_of_succ_le hk.out), by omega, by go_num, by rw [HV2.out, Int.mul_comm, Int.add_comm], (j1), hb⟩
                      case measure => simp [intOf] <;> omega
          · skip
            have d5 : decide ((j : Int) + 1 < (L : Int)) = false := decide_eq_false (by omega)
            by_cases hx8 : 128 ≤ x
            · have d6 : decide (128 ≤ x) = true := decide_eq_true hx8
              have hres : Hid (gt l 0 0 = .error 6) := hide (by rw [hga.out, gt, if_neg (by omega), if_neg (by omega), if_neg (by omega), List.drop_of_length_le (by rw [HL.out]; omega)]; rfl)
              go_wp2
              go_ret3
              exact ⟨by rw [hres.out]; rfl, hb⟩
            · skip
              have d6 : decide (128 ≤ x) = false := decide_eq_false hx8
              rcases j with _ | j
              · have hok : Hid (gt l 0 0 = .ok (valU (l.take (0 + 1)), 0 + 1)) := hide (by rw [hga.out, gt, if_neg (by omega), if_neg (by omega), if_pos (by omega), hvt.out])
                simp only [Nat.add_zero] at q1
                have hN := HGL.out _ _ hok.out
                have HN := hide hN
                clear hN
                go_wp2_with fail
                go_loopw [9, 10] (fun vn vi wr => ∃ k : Nat, Hid (k ≤ 0 + 1) ∧ k ≤ 10 ∧ vi = .int .i64 ((k : Int) - 1) ∧ vn = .int .u64 (valU ((l.take (0 + 1)).drop k) : Int) ∧ wr.heap[g]? = some (.cells cur 5 (0, 0)) ∧ Below w.heap.size w wr) (fun _ vi _ => (intOf vi + 1).toNat)
                case atStart => exact ⟨0 + 1, hide (Nat.le_refl _), by omega, by go_num, by rw [List.drop_of_length_le (by rw [List.length_take]; omega)]; rfl, (j1), hb⟩
                case round =>
                  obtain ⟨k, hk, hk10, rfl, rfl, j1, hb⟩ := hrel
                  rcases k with _ | k
                  · go_wp2
                    go_ret3
                    exact ⟨by rw [hok.out]; rfl, hb⟩
                  · have hkl : k < L := by have := hk.out; omega
                    obtain ⟨r1, r2, r3⟩ := HC.out k hkl
                    have hst := hide (valU_step (l := l) (j := 0 + 1) (k := k) (by have := hk.out; omega) (by rw [HL.out]; omega))
                    have hle := valU_drop (l.take (0 + 1)) k
                    have hNN := HN.out
                    generalize l.getD k 0 = y at *
                    obtain ⟨z, hz⟩ : ∃ z, y.tmod 128 = z := ⟨_, rfl⟩
                    have ez : z = y % 128 := by rw [← hz, Int.tmod_eq_emod_of_nonneg r2]
                    obtain ⟨V, hV⟩ : ∃ V : Int, ((valU ((l.take (0 + 1)).drop (k + 1)) : Nat) : Int) = V := ⟨_, rfl⟩
                    have hV2 : ((valU ((l.take (0 + 1)).drop k) : Nat) : Int) = z + 128 * V := by
                      rw [hst.out, ← hV, ez]
                      push_cast
                      omega
                    have hV0 : 0 ≤ V := by rw [← hV]; omega
                    have hVb : z + 128 * V < 18446744073709551616 := by rw [← hV2]; omega
                    have hw1 : IntKind.u64.wrap (V * 128) = V * 128 := by simp [IntKind.wrap, IntKind.bits, IntKind.signed]; omega
                    have hw2 : IntKind.u8.wrap z = z := by simp [IntKind.wrap, IntKind.bits, IntKind.signed]; omega
                    have hw3 : IntKind.u64.wrap z = z := by simp [IntKind.wrap, IntKind.bits, IntKind.signed]; omega
                    have hw4 : IntKind.u64.wrap (V * 128 + z) = V * 128 + z := by simp [IntKind.wrap, IntKind.bits, IntKind.signed]; omega
                    have HV2 := hide hV2
                    rw [hV]
                    have HV := hide hV
                    clear hV hV2 ez hst hle hNN
                    obtain ⟨zg_a, zg_b, lg3⟩ := rcell j1
                    go_wp2
                    go_roundw
                    case rel => exact ⟨k, hide (Nat.le_of_succ_le hk.out), by omega, by go_num, by rw [HV2.out, Int.mul_comm, Int.add_comm], (j1), hb⟩
                    case measure => simp [intOf] <;> omega
              · skip
                have dj : decide (1 < (j : Int) + 1 + 1) = true := decide_eq_true (by omega)
                by_cases hx0 : x = 0
                · have d4 : (x == 0) = true := by simp [hx0]
                  have hres : Hid (gt l 0 0 = .error 7) := hide (by rw [hga.out, gt, if_neg (by omega), if_pos ⟨hx0, by omega⟩])
                  clear hx0
                  go_wp2
                  go_ret3
                  exact ⟨by rw [hres.out]; rfl, hb⟩
                · skip
                  have d4 : (x == 0) = false := by simp [hx0]
                  have hok : Hid (gt l 0 0 = .ok (valU (l.take (j + 1 + 1)), j + 1 + 1)) := hide (by rw [hga.out, gt, if_neg (by omega), if_neg (by omega), if_pos (by omega), hvt.out])
                  clear hx0
                  have hN := HGL.out _ _ hok.out
                  have HN := hide hN
                  clear hN
                  go_wp2_with fail
                  go_loopw [9, 10] (fun vn vi wr => ∃ k : Nat, Hid (k ≤ j + 1 + 1) ∧ k ≤ 10 ∧ vi = .int .i64 ((k : Int) - 1) ∧ vn = .int .u64 (valU ((l.take (j + 1 + 1)).drop k) : Int) ∧ wr.heap[g]? = some (.cells cur 5 (0, 0)) ∧ Below w.heap.size w wr) (fun _ vi _ => (intOf vi + 1).toNat)
                  case atStart => exact ⟨j + 1 + 1, hide (Nat.le_refl _), by omega, by go_num, by rw [List.drop_of_length_le (by rw [List.length_take]; omega)]; rfl, (j1), hb⟩
                  case round =>
                    obtain ⟨k, hk, hk10, rfl, rfl, j1, hb⟩ := hrel
                    rcases k with _ | k
                    · go_wp2
                      go_ret3
                      exact ⟨by rw [hok.out]; rfl, hb⟩
                    · have hkl : k < L := by have := hk.out; omega
                      obtain ⟨r1, r2, r3⟩ := HC.out k hkl
                      have hst := hide (valU_step (l := l) (j := j + 1 + 1) (k := k) (by have := hk.out; omega) (by rw [HL.out]; omega))
                      have hle := valU_drop (l.take (j + 1 + 1)) k
                      have hNN := HN.out
                      generalize l.getD k 0 = y at *
                      obtain ⟨z, hz⟩ : ∃ z, y.tmod 128 = z := ⟨_, rfl⟩
                      have ez : z = y % 128 := by rw [← hz, Int.tmod_eq_emod_of_nonneg r2]
                      obtain ⟨V, hV⟩ : ∃ V : Int, ((valU ((l.take (j + 1 + 1)).drop (k + 1)) : Nat) : Int) = V := ⟨_, rfl⟩
                      have hV2 : ((valU ((l.take (j + 1 + 1)).drop k) : Nat) : Int) = z + 128 * V := by
                        rw [hst.out, ← hV, ez]
                        push_cast
                        omega
                      have hV0 : 0 ≤ V := by rw [← hV]; omega
                      have hVb : z + 128 * V < 18446744073709551616 := by rw [← hV2]; omega
                      have hw1 : IntKind.u64.wrap (V * 128) = V * 128 := by simp [IntKind.wrap, IntKind.bits, IntKind.signed]; omega
                      have hw2 : IntKind.u8.wrap z = z := by simp [IntKind.wrap, IntKind.bits, IntKind.signed]; omega
                      have hw3 : IntKind.u64.wrap z = z := by simp [IntKind.wrap, IntKind.bits, IntKind.signed]; omega
                      have hw4 : IntKind.u64.wrap (V * 128 + z) = V * 128 + z := by simp [IntKind.wrap, IntKind.bits, IntKind.signed]; omega
                      have HV2 := hide hV2
                      rw [hV]
                      have HV := hide hV
                      clear hV hV2 ez hst hle hNN
                      obtain ⟨zg_a, zg_b, lg3⟩ := rcell j1
                      go_wp2
                      go_roundw
                      case rel => exact ⟨k, hide (Nat.le_of_succ_le hk.out), by omega, by go_num, by rw [HV2.out, Int.mul_comm, Int.add_comm], (j1), hb⟩
                      case measure => simp [intOf] <;> omega
  · obtain rfl : at' = b.length := by omega
    have hres : Hid (gt (b.drop b.length) 0 0 = .error 6) := hide (by rw [List.drop_length]; rfl)
    clear hB hR
    go_enter Tryz.func72, Tryz.ntmps72
    go_wp2_with fail
    all_goals
      refine wp_loop_rounds 1 ?_
      rw [rounds_succ]
      go_wp2
      go_ret3
      exact ⟨by rw [hres.out]; rfl, b0 w⟩
end Go.Proofs.YtmpfbkeamihjbaaGreat

namespace Go.Proofs.YtmpfbkeamihjbaaGreat
open Go.RowKit
attribute [local go_sem] Oper.semAt_some

set_option maxRecDepth 100000 in
theorem ref02_Number (A : Option Addr) (c at' : Nat) (b : List Int) (hB : Byt b) (hat : at' ≤ b.length) (w : World) (hR : YR w A c b) :
    Calls Tryz.prog 89 #[.slice A b.length c, .int .i64 (at' : Int)] w fun e w' => getPS (pS b at') e ∧ Below w.heap.size w w' := by
  have c1 := ref02_Get A c at' b hB hat w hR
  have htop := hR.top
  have hcap := hR.cap
  cases h : gt (b.drop at') 0 0 with
  | ok p =>
    obtain ⟨N, k⟩ := p
    have hlt : N < 18446744073709551616 := gt_lt _ 0 0 N k (fun x hx => hB x (List.mem_of_mem_drop hx)) (by decide) (by decide) h
    have hres : Hid (pS b at' = .ok (unfold' N, at' + k)) := hide (by unfold pS gU; rw [h])
    have hk : at' + k ≤ b.length := by
      have := (keeps_gU b at' N (at' + k) (by unfold gU; rw [h])).1
      have h2 := (keeps_gU b at' N (at' + k) (by unfold gU; rw [h])).2 b.length (by omega)
      rw [List.take_length] at h2
      unfold gU at h2
      rw [h] at h2
      simp only at h2
      split at h2
      · cases h2
      · omega
    rw [h] at c1
    clear h
    have c2 := ref02_Unsign N hlt _ rfl
    have hw : wrap64 ((at' : Int) + (k : Int)) = ((at' + k : Nat) : Int) := by unfold wrap64; omega
    go_enter Tryz.func89, Tryz.ntmps89
    go_wp2_with fail
    refine c1.mono ?_
    rintro e w1 ⟨he, hb⟩
    obtain rfl : e = _ := he
    go_wp2_with fail
    refine (c2 _).mono ?_
    rintro e w2 ⟨rfl, rfl⟩
    go_wp2
    go_ret3
    exact ⟨by rw [hres.out]; unfold getPS; simp only; simp [hw], hb⟩
  | error x =>
    have hres : Hid (pS b at' = .error x) := hide (by unfold pS gU; rw [h])
    have hx : x = 6 ∨ x = 7 := gU_err (b := b) (at' := at') (by unfold gU; rw [h])
    have d0 : (x != 0) = true := by simp; omega
    rw [h] at c1
    clear h hx
    go_enter Tryz.func89, Tryz.ntmps89
    go_wp2_with fail
    refine c1.mono ?_
    rintro e w1 ⟨he, hb⟩
    obtain rfl : e = _ := he
    go_wp2
    go_ret3
    exact ⟨by rw [hres.out]; rfl, hb⟩
end Go.Proofs.YtmpfbkeamihjbaaGreat
