/- Sums by which damage is seen: plain law, no program in sight. The package crc at this program: half a byte, a byte. The package crc at this program: a byte is taken in. The package crc at this program: a sum goes on by bytes. -/
import Derived.Test.YtncmgfehlgkgdaaGreatDoorAb
import Derived.Laws.BitsAllLaws
set_option linter.unusedSimpArgs false
set_option linter.unusedVariables false
set_option linter.unusedSectionVars false
namespace Go.Proofs.YtncmgfehlgkgdaaGreatDoor
open Go.RowKit

/-- what half a byte is worth -/
def crcT : List Nat := [0x00000000, 0x04c11db7, 0x09823b6e, 0x0d4326d9, 0x130476dc, 0x17c56b6b, 0x1a864db2, 0x1e475005, 0x2608edb8, 0x22c9f00f, 0x2f8ad6d6, 0x2b4bcb61, 0x350c9b64, 0x31cd86d3, 0x3c8ea00a, 0x384fbdbd]
/-- half a byte is taken in -/
def crcH (s n : Nat) : Nat := (s * 16 % 4294967296) ^^^ crcT.getD ((s / 268435456) ^^^ n) 0
/-- a byte is taken in -/
def crcB (s c : Nat) : Nat := crcH (crcH s (c / 16)) (c % 16)
def crcS (s : Nat) (b : List Int) : Nat := b.foldl (fun s c => crcB s c.toNat) s
theorem crcT_lt : ∀ i, crcT.getD i 0 < 4294967296 := by
  intro i
  by_cases h : i < 16
  · have : ∀ j, j < 16 → crcT.getD j 0 < 4294967296 := by decide
    exact this i h
  · have : crcT[i]? = none := List.getElem?_eq_none (by simp [crcT]; omega)
    simp [List.getD, this]
theorem crcH_lt (s n : Nat) : crcH s n < 4294967296 :=
  Nat.xor_lt_two_pow (n := 32) (Nat.mod_lt _ (by decide)) (crcT_lt _)
theorem crcB_lt (s c : Nat) : crcB s c < 4294967296 := crcH_lt _ _
theorem crcS_lt {s : Nat} (hs : s < 4294967296) : ∀ b : List Int, crcS s b < 4294967296 := by
  intro b
  induction b generalizing s with
  | nil => exact hs
  | cons c b ih => exact ih (crcB_lt _ _)
theorem crcS_snoc (s : Nat) (b : List Int) (c : Int) : crcS s (b ++ [c]) = crcB (crcS s b) c.toNat := by simp [crcS]
theorem idx_lt {s n : Nat} (hs : s < 4294967296) (hn : n < 16) : (s / 268435456) ^^^ n < 16 :=
  Nat.xor_lt_two_pow (n := 4) (by omega) hn
/-- bytes with their sum -/
def crcL (b : List Int) : List Int := b ++ [((crcS 4294967295 b / 16777216 : Nat) : Int), ((crcS 4294967295 b / 65536 % 256 : Nat) : Int), ((crcS 4294967295 b / 256 % 256 : Nat) : Int), ((crcS 4294967295 b % 256 : Nat) : Int)]
end Go.Proofs.YtncmgfehlgkgdaaGreatDoor

namespace Go.Proofs.YtncmgfehlgkgdaaGreatDoor
open Go.RowKit
attribute [local go_sem] Oper.semAt_some

theorem rowz1 {w : World} {g : Nat} {a0 : Value} {t : TypeId} {f : Nat × Nat} (h : w.heap[g]? = some (.cells #[a0] t f)) (v : Value) : w.setCell ⟨g, 0, none⟩ v = setRow w g #[v] := setRow_of_setCell h v rfl
def crcV : List Value := [.int .u32 0, .int .u32 79764919, .int .u32 159529838, .int .u32 222504665, .int .u32 319059676, .int .u32 398814059, .int .u32 445009330, .int .u32 507990021, .int .u32 638119352, .int .u32 583659535, .int .u32 797628118, .int .u32 726387553, .int .u32 890018660, .int .u32 835552979, .int .u32 1015980042, .int .u32 944750013]
theorem crcV_at : ∀ i, i < 16 → crcV[i]? = some (.int .u32 ((crcT.getD i 0 : Nat) : Int)) := by
  intro i h
  have : i = 0 ∨ i = 1 ∨ i = 2 ∨ i = 3 ∨ i = 4 ∨ i = 5 ∨ i = 6 ∨ i = 7 ∨ i = 8 ∨ i = 9 ∨ i = 10 ∨ i = 11 ∨ i = 12 ∨ i = 13 ∨ i = 14 ∨ i = 15 := by omega
  rcases this with rfl | rfl | rfl | rfl | rfl | rfl | rfl | rfl | rfl | rfl | rfl | rfl | rfl | rfl | rfl | rfl <;> rfl

set_option maxRecDepth 100000 in
set_option maxHeartbeats 4000000 in
theorem crc_half (g : Nat) (s n : Nat) (hs : s < 4294967296) (hn : n < 16) (t : TypeId) (w : World) (hg : w.heap[g]? = some (.cells #[.int .u32 (s : Int)] t (0, 0))) :
    Calls Tryz.prog 437 #[.pointer (some ⟨g, 0, none⟩), .int .u8 (n : Int)] w fun e w' => e = .returned (.tuple #[]) ∧ Exc g w w' ∧ w'.heap[g]? = some (.cells #[.int .u32 ((crcH s n : Nat) : Int)] t (0, 0)) := by
  have hi := idx_lt hs hn
  have hx8 : bits .xor .u8 ((s : Int) / 268435456) (n : Int) = ((s / 268435456 ^^^ n : Nat) : Int) := u8_xor_nat (s / 268435456) n (by omega) (by omega)
  have hx32 : bits .xor .u32 ((s : Int) * 16 % 4294967296) ((crcT.getD (s / 268435456 ^^^ n) 0 : Nat) : Int) = ((crcH s n : Nat) : Int) := u32_xor_nat (s * 16 % 4294967296) _ (Nat.mod_lt _ (by decide)) (crcT_lt _)
  have hV := crcV_at _ hi
  generalize crcT.getD (s / 268435456 ^^^ n) 0 = c at *
  generalize s / 268435456 ^^^ n = i at *
  have hW : ∀ h : i < crcV.length, crcV[i]'h = .int .u32 (c : Int) := fun h => by
    rw [List.getElem?_eq_getElem h] at hV
    exact Option.some.inj hV
  unfold crcV at hW
  have l_g := (rcell hg).2.2
  obtain ⟨zg_a, zg_b, -⟩ := rcell hg
  go_enter Tryz.func437, Tryz.ntmps437
  go_wp2_with fail
  have f_g1 := (ka (hg) (.cells #[.int .u32 0, .int .u32 79764919, .int .u32 159529838, .int .u32 222504665, .int .u32 319059676, .int .u32 398814059, .int .u32 445009330, .int .u32 507990021, .int .u32 638119352, .int .u32 583659535, .int .u32 797628118, .int .u32 726387553, .int .u32 890018660, .int .u32 835552979, .int .u32 1015980042, .int .u32 944750013] 644))
  have f_v1 := (na w #[.int .u32 0, .int .u32 79764919, .int .u32 159529838, .int .u32 222504665, .int .u32 319059676, .int .u32 398814059, .int .u32 445009330, .int .u32 507990021, .int .u32 638119352, .int .u32 583659535, .int .u32 797628118, .int .u32 726387553, .int .u32 890018660, .int .u32 835552979, .int .u32 1015980042, .int .u32 944750013] 644)
  have hB1 := (xA (x0 g w (Nat.le_of_lt (rcell hg).2.2)) (.cells #[.int .u32 0, .int .u32 79764919, .int .u32 159529838, .int .u32 222504665, .int .u32 319059676, .int .u32 398814059, .int .u32 445009330, .int .u32 507990021, .int .u32 638119352, .int .u32 583659535, .int .u32 797628118, .int .u32 726387553, .int .u32 890018660, .int .u32 835552979, .int .u32 1015980042, .int .u32 944750013] 644))
  clear zg_a zg_b
  have lg1 := (rcell f_g1).2.2
  have lv1 := (rcell f_v1).2.2
  refine Abs.wp_region_abs (Abs.cls0 _) [0, 1, 2, 3, 4, 5, 6, 7, 8, 9, 10, 11, 12, 13, 14, 15, 16] (by kernel_rfl) (by kernel_rfl) (Below.refl _ _).drew ?_
  repeat (first | (refine Abs.step_pure rfl rfl (fun K hK => ?_); go_simp; (try go_bits); (first | refine hK _ _ ?_ | (simp only [↓IntWalk.iteOmega]; go_simp; (try go_bits); refine hK _ _ ?_)); clear hK K) | (refine Abs.step_load (v := ?_) rfl rfl (by kernel_rfl) rfl (fun w0 hI => ?_) (fun K hK => ?_); rotate_left; (· have z0 := (rcell (kp hI (f_g1))).1; have z1 := (rcell (kp hI (f_v1))).1; go_simp; rfl); (simp only [Act.put, List.setIfInBounds_toArray, List.set_cons_zero, List.set_cons_succ]; refine hK _ _ ?_; clear hK K)) | (refine Abs.step_skip rfl rfl (fun K hK => ?_); (simp only [Act.put, List.setIfInBounds_toArray, List.set_cons_zero, List.set_cons_succ]; refine hK _ _ ?_; clear hK K)))
  try simp only [hW]
  repeat (first | (refine Abs.step_pure rfl rfl (fun K hK => ?_); go_simp; (try go_bits); (first | refine hK _ _ ?_ | (simp only [↓IntWalk.iteOmega]; go_simp; (try go_bits); refine hK _ _ ?_)); clear hK K) | (refine Abs.step_load (v := ?_) rfl rfl (by kernel_rfl) rfl (fun w0 hI => ?_) (fun K hK => ?_); rotate_left; (· have z0 := (rcell (kp hI (f_g1))).1; have z1 := (rcell (kp hI (f_v1))).1; go_simp; rfl); (simp only [Act.put, List.setIfInBounds_toArray, List.set_cons_zero, List.set_cons_succ]; refine hK _ _ ?_; clear hK K)) | (refine Abs.step_skip rfl rfl (fun K hK => ?_); (simp only [Act.put, List.setIfInBounds_toArray, List.set_cons_zero, List.set_cons_succ]; refine hK _ _ ?_; clear hK K)))
  (refine Abs.step_store (T := ?_) rfl rfl rfl (fun w0 hI hF hU => ?_) (fun w0 hI hU hJ => ?_) (fun K hK => ?_); rotate_left; (· have hR := kp hI (f_g1); have hg0 := (rcell hR).1; have hg1 := (rcell hR).2.1; simp only [Abs.T_setF, Abs.T_addA, Abs.T_push, Abs.T_start]; go_simp; exact rowz1 hR _); (· first | exact trivial | exact js hJ rfl _ | exact js hJ (Or.inl rfl) _ | exact js hJ (Or.inr rfl) _); (simp only [Act.put, List.setIfInBounds_toArray, List.set_cons_zero, List.set_cons_succ]; refine hK _ _ ?_; clear hK K))
  repeat (first | (refine Abs.step_pure rfl rfl (fun K hK => ?_); go_simp; (try go_bits); (first | refine hK _ _ ?_ | (simp only [↓IntWalk.iteOmega]; go_simp; (try go_bits); refine hK _ _ ?_)); clear hK K) | (refine Abs.step_load (v := ?_) rfl rfl (by kernel_rfl) rfl (fun w0 hI => ?_) (fun K hK => ?_); rotate_left; (· have z0 := (rcell (kp hI (f_g1))).1; have z1 := (rcell (kp hI (f_v1))).1; go_simp; rfl); (simp only [Act.put, List.setIfInBounds_toArray, List.set_cons_zero, List.set_cons_succ]; refine hK _ _ ?_; clear hK K)) | (refine Abs.step_skip rfl rfl (fun K hK => ?_); (simp only [Act.put, List.setIfInBounds_toArray, List.set_cons_zero, List.set_cons_succ]; refine hK _ _ ?_; clear hK K)))
  intro w0 hI hF hx1 hx2
  clear hx1 hx2 hF
  simp only [Abs.T_push]
  generalize hT2 : setRow w0 _ _ = w2
  obtain ⟨hx2, f_g2⟩ := fin_x hI (f_g1) hT2
  clear hT2 hI w0
  have f_v2 := kx hx2 (f_v1) (by omega)
  have hB2 := xX hB1 hx2 (by omega)
  obtain ⟨zv_a, zv_b, lv2⟩ := rcell f_v2
  obtain ⟨zg_a, zg_b, lg2⟩ := rcell f_g2
  go_wp2
  refine bodyPost_end (by simp [results, Tryz.results437, go_sem]; try rfl) rfl ⟨rfl, hB2, (f_g2)⟩
end Go.Proofs.YtncmgfehlgkgdaaGreatDoor

namespace Go.Proofs.YtncmgfehlgkgdaaGreatDoor
open Go.RowKit
attribute [local go_sem] Oper.semAt_some

set_option maxRecDepth 100000 in
set_option maxHeartbeats 4000000 in
theorem crc_take (g : Nat) (s c : Nat) (hs : s < 4294967296) (hc : c < 256) (t : TypeId) (w : World) (hg : w.heap[g]? = some (.cells #[.int .u32 (s : Int)] t (0, 0))) :
    Calls Tryz.prog 384 #[.pointer (some ⟨g, 0, none⟩), .int .u8 (c : Int)] w fun e w' => e = .returned (.tuple #[]) ∧ Exc g w w' ∧ w'.heap[g]? = some (.cells #[.int .u32 ((crcB s c : Nat) : Int)] t (0, 0)) := by
  have cA := fun w h => crc_half g s (c / 16) hs (by omega) t w h
  have cB := fun w h => crc_half g (crcH s (c / 16)) (c % 16) (crcH_lt _ _) (by omega) t w h
  have hx8 : bits .and .u8 (c : Int) 15 = ((c % 16 : Nat) : Int) := (u8_and_nat c 15 hc (by decide)).trans (by rw [Nat.and_two_pow_sub_one_eq_mod c 4])
  have l_g := (rcell hg).2.2
  obtain ⟨zg_a, zg_b, -⟩ := rcell hg
  go_enter Tryz.func384, Tryz.ntmps384
  go_wp2_with fail
  refine (cA _ (hg)).mono ?_
  rintro e w1 ⟨rfl, hx1, f_g1⟩
  have hB1 := xX (x0 g w (Nat.le_of_lt (rcell hg).2.2)) hx1 (by omega)
  clear zg_a zg_b
  obtain ⟨zg_a, zg_b, lg1⟩ := rcell f_g1
  go_wp2_with fail
  refine (cB _ (f_g1)).mono ?_
  rintro e w2 ⟨rfl, hx2, f_g2⟩
  have hB2 := xX hB1 hx2 (by omega)
  clear zg_a zg_b
  obtain ⟨zg_a, zg_b, lg2⟩ := rcell f_g2
  go_wp2
  refine bodyPost_end (by simp [results, Tryz.results384, go_sem]; try rfl) rfl ⟨rfl, hB2, (f_g2)⟩
end Go.Proofs.YtncmgfehlgkgdaaGreatDoor

namespace Go.Proofs.YtncmgfehlgkgdaaGreatDoor
open Go.RowKit
attribute [local go_sem] Oper.semAt_some

theorem crcS_take {s : Nat} {l : List Int} {k : Nat} (h : k < l.length) : crcS s (l.take (k + 1)) = crcB (crcS s (l.take k)) (l[k]).toNat := by
  rw [← crcS_snoc, List.take_succ_eq_append_getElem h]

set_option maxRecDepth 100000 in
set_option maxHeartbeats 4000000 in
theorem crc_More (s : Nat) (A : Option Addr) (c : Nat) (l : List Int) (hs : s < 4294967296) (hn : l.length ≤ 9223372036854775807) (tt : TypeId)
    (w : World) (hm : 0 < l.length → ∃ g o cur, A = some ⟨g, o, none⟩ ∧ w.heap[g]? = some (.cells cur tt (0, 0)) ∧ ∀ i (hi : i < l.length), cur[o + i]? = some (.int .u8 l[i])) (hb : ∀ x ∈ l, 0 ≤ x ∧ x < 256) :
    Calls Tryz.prog 306 #[.int .u32 (s : Int), .slice A l.length c] w fun e w' => e = .returned (.int .u32 ((crcS s l : Nat) : Int)) ∧ Below w.heap.size w w' := by
  have cT := fun g s c hs hc w h => crc_take g s c hs hc 548 w h
  by_cases h0 : 0 < l.length
  · obtain ⟨g, o, cur, rfl, hg, hc⟩ := hm h0
    have HC := hide hc
    have HB := hide hb
    clear hc hm hb
    go_enter Tryz.func306, Tryz.ntmps306
    obtain ⟨zg_a, zg_b, lg0⟩ := rcell hg
    go_wp2_with fail
    go_loopw [14] (fun vi wr => ∃ (k s' : Nat), vi = .int .i64 k ∧ k ≤ l.length ∧ s' < 4294967296 ∧ Hid (crcS s (l.take k) = s') ∧ wr.heap[g]? = some (.cells cur tt (0, 0)) ∧ wr.heap[w.heap.size]? = some (.cells #[.int .u32 (s' : Int)] 548 (0, 0)) ∧ Below w.heap.size w wr) (fun vi _ => l.length - (intOf vi).toNat)
    case atStart => exact ⟨0, s, rfl, by omega, hs, hide rfl, (ka (hg) (.cells #[.int .u32 (s : Int)] 548)), (na w #[.int .u32 (s : Int)] 548), (bA (b0 w) (.cells #[.int .u32 (s : Int)] 548))⟩
    case round =>
      obtain ⟨k, s', rfl, hk, hs', hT, j1, j2, hb⟩ := hrel
      by_cases hlt : k < l.length
      · have q1 := HC.out k hlt
        have hv := HB.out _ (List.getElem_mem hlt)
        have HN : Hid (crcS s (l.take (k + 1)) = crcB s' (l[k]).toNat) := hide ((crcS_take hlt).trans (by rw [hT.out]))
        generalize l[k] = v at *
        obtain ⟨x, rfl⟩ := Int.eq_ofNat_of_zero_le hv.1
        simp only [Int.toNat_natCast] at HN
        have hx : x < 256 := by omega
        have cB := fun w h => cT w.heap.size s' x hs' hx w h
        clear hv
        obtain ⟨zg_a, zg_b, lg1⟩ := rcell j1
        obtain ⟨zr_a, zr_b, lr2⟩ := rcell j2
        go_wp2_with fail
        refine (cT _ s' x hs' hx _ (j2)).mono ?_
        rintro e w3 ⟨rfl, hx3, f_r3⟩
        have f_g3 := kx hx3 (j1) (by omega)
        have hB3 := bX hb hx3 (by omega)
        clear zg_a zg_b zr_a zr_b
        obtain ⟨zg_a, zg_b, lg3⟩ := rcell f_g3
        obtain ⟨zr_a, zr_b, lr3⟩ := rcell f_r3
        go_wp2
        go_roundw
        case rel => exact ⟨k + 1, crcB s' x, by go_num, by omega, crcB_lt _ _, HN, (f_g3), (f_r3), hB3⟩
        case measure => simp [intOf]; omega
      · obtain rfl : k = l.length := by omega
        have E := hT.out
        rw [List.take_length] at E
        subst E
        obtain ⟨zg_a, zg_b, lg4⟩ := rcell j1
        obtain ⟨zr_a, zr_b, lr5⟩ := rcell j2
        go_wp2
        go_ret
        exact ⟨rfl, hb⟩
  · obtain rfl : l = [] := List.eq_nil_of_length_eq_zero (by omega)
    clear hm hb
    go_enter Tryz.func306, Tryz.ntmps306
    go_wp2_with fail
    go_loopw [14] (fun vi wr => vi = .int .i64 0 ∧ wr.heap[w.heap.size]? = some (.cells #[.int .u32 (s : Int)] 548 (0, 0)) ∧ Below w.heap.size w wr) (fun _ _ => 0)
    case atStart => exact ⟨rfl, (na w #[.int .u32 (s : Int)] 548), (bA (b0 w) (.cells #[.int .u32 (s : Int)] 548))⟩
    case round =>
      obtain ⟨rfl, j2, hb⟩ := hrel
      obtain ⟨zr_a, zr_b, lr1⟩ := rcell j2
      go_wp2
      go_ret
      exact ⟨rfl, hb⟩
end Go.Proofs.YtncmgfehlgkgdaaGreatDoor
