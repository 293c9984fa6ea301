/- The console's laws at this program: numbers to the base 16. The console's laws at this program: the library's digits to the base 16. The console's laws at this program: sixteen digits. The console's laws at this program: a command's words. The console's laws at this program: a command's words, as th -/
import Derived.Test.YtbiedfkmmcaplaaGreatDoorQc
import Derived.Laws.IdiomStrings
import Derived.Test.YtbiedfkmmcaplaaGreatDoorSh
import Derived.Shelf.Small.Bits
import Derived.Shelf.Utf8.RuneCount
import Derived.Shelf.Unicode.Decode
import Derived.Shelf.Strings.RuneCount
import Derived.Shelf.Strings.Explode
import Derived.Shelf.Unicode.DecodeAny
import Derived.Shelf.Slices.Turned
import Derived.Shelf.Slices.CompactI
import Derived.Shelf.Slices.SearchI
import Derived.Shelf.Slices.Cells
import Derived.Ground.SlgnProg
import Derived.Shelf.SlicesE.Clone
set_option linter.all false
namespace Go.Proofs.YtbiedfkmmcaplaaGreatDoor
open Go.RowKit
attribute [local go_sem] Oper.semAt_some

def hexC (d : Nat) : UInt8 := if d < 10 then UInt8.ofNat (48 + d) else UInt8.ofNat (87 + d)
def hexL (n : Nat) : List UInt8 := if n < 16 then [hexC n] else hexL (n / 16) ++ [hexC (n % 16)]
def hexF : Nat → Nat → List UInt8
  | 0, _ => []
  | k + 1, n => hexF k (n / 16) ++ [hexC (n % 16)]
theorem hexF_len : ∀ k n, (hexF k n).length = k
  | 0, _ => rfl
  | k + 1, n => by rw [hexF, List.length_append, hexF_len]; rfl
theorem hexF_zero : ∀ k, hexF k 0 = List.replicate k 48
  | 0 => rfl
  | k + 1 => by rw [hexF, Nat.zero_div, hexF_zero, List.replicate_succ']; rfl
theorem hexF_is : ∀ (k n : Nat), n < 16 ^ (k + 1) → (hexL n).length ≤ k + 1 ∧ hexF (k + 1) n = List.replicate (k + 1 - (hexL n).length) 48 ++ hexL n
  | 0, n, h => by
    have h : n < 16 := by simpa using h
    rw [hexL, if_pos h, hexF, hexF, Nat.mod_eq_of_lt h]
    exact ⟨Nat.le_refl _, rfl⟩
  | k + 1, n, h => by
    by_cases h16 : n < 16
    · rw [hexL, if_pos h16, hexF, Nat.div_eq_of_lt h16, Nat.mod_eq_of_lt h16, hexF_zero]
      exact ⟨by simp, by simp⟩
    · have h2 : n / 16 < 16 ^ (k + 1) := by rw [Nat.div_lt_iff_lt_mul (by decide)]; rwa [← Nat.pow_succ]
      obtain ⟨i1, i2⟩ := hexF_is k (n / 16) h2
      rw [hexL, if_neg h16, hexF, i2]
      refine ⟨by rw [List.length_append]; simpa using i1, ?_⟩
      rw [List.length_append, List.append_assoc]
      congr 2
      simp
def digs : ByteArray := ⟨#[48, 49, 50, 51, 52, 53, 54, 55, 56, 57, 97, 98, 99, 100, 101, 102, 103, 104, 105, 106, 107, 108, 109, 110, 111, 112, 113, 114, 115, 116, 117, 118, 119, 120, 121, 122]⟩
theorem digs_at (d : Nat) (h : d < 16) (w : World) : (Instr.index 9 (.string digs) (.int .u64 (d : Int))).run Tryz.prog w = .ok (.int .u8 ((hexC d).toNat : Int)) w := by
  obtain rfl | rfl | rfl | rfl | rfl | rfl | rfl | rfl | rfl | rfl | rfl | rfl | rfl | rfl | rfl | rfl : d = 0 ∨ d = 1 ∨ d = 2 ∨ d = 3 ∨ d = 4 ∨ d = 5 ∨ d = 6 ∨ d = 7 ∨ d = 8 ∨ d = 9 ∨ d = 10 ∨ d = 11 ∨ d = 12 ∨ d = 13 ∨ d = 14 ∨ d = 15 := by omega
  all_goals kernel_rfl

def Deb (w : World) : Prop := w.cell? ⟨8, 15, none⟩ = some (.int .u8 4)
theorem lib_trail (w : World) (h : Deb w) : Calls Tryz.prog 326 #[.int .u64 16] w fun e w' => e = .returned (.int .i64 4) ∧ w' = w := by
  unfold Deb at h
  have c : Calls Tryz.prog 408 #[.int .u64 16] w fun e w' => e = .returned (.int .i64 4) ∧ w' = w := by
    have e1 : IntKind.u64.wrap (-16) = 18446744073709551600 := by decide
    have e2 : bits BinOp.and IntKind.u64 16 18446744073709551600 = 16 := by kernel_rfl
    have e3 : IntKind.u64.wrap (16 * 285870213051353865) = 4573923408821661840 := by decide
    go_enter Tryz.func408, Tryz.ntmps408
    go_wp2
    go_ret
    exact ⟨rfl, rfl⟩
  go_enter Tryz.func326, Tryz.ntmps326
  go_wp2_with fail
  refine c.mono ?_
  rintro e w' ⟨rfl, rfl⟩
  go_wp2
  go_ret
  exact ⟨rfl, rfl⟩
theorem lib_pow2 (w : World) : Calls Tryz.prog 325 #[.int .i64 16] w fun e w' => e = .returned (.bool true) ∧ w' = w := by
  have e2 : bits BinOp.and IntKind.i64 16 15 = 0 := by kernel_rfl
  go_enter Tryz.func325, Tryz.ntmps325
  go_wp2
  go_ret
  exact ⟨rfl, rfl⟩
end Go.Proofs.YtbiedfkmmcaplaaGreatDoor

namespace Go.Proofs.YtbiedfkmmcaplaaGreatDoor
open Go.RowKit
attribute [local go_sem] Oper.semAt_some

theorem and15 (n : Nat) (h : n < 18446744073709551616) : bits .and .u64 (n : Int) 15 = ((n % 16 : Nat) : Int) := by
  have := bits_and_u64_nat n 15 h (by decide)
  rw [show ((15 : Nat) : Int) = 15 from rfl] at this
  rw [this, Nat.and_two_pow_sub_one_eq_mod n 4]
theorem wpList_indexX {ops : Array Oper} {rest : List Oper} {o : Oper} {a : Act} {w : World} {Q : Exit → Act → World → Prop} (hgd : o.guard = none) (t : TypeId) (x y : Operand) (ho : o.op = .index t x y) (X Y v : Value) (hx : a.eval x = X) (hy : a.eval y = Y)
    (hv : (Instr.index t X Y).run Tryz.prog w = .ok v w) (h : wpList Tryz.prog ops Q rest (a.put o.dst v) w) : wpList Tryz.prog ops Q (o :: rest) a w := by
  subst hx hy
  refine wpList_plain hgd fun _ hK => ?_
  unfold Oper.wp execOp
  simp only [ho, Sem.run_bind, Sem.run_pure, Result.andThen_ok]
  rw [hv]
  exact hK _ _ h
theorem wpList_convX {ops : Array Oper} {rest : List Oper} {o : Oper} {a : Act} {w : World} {Q : Exit → Act → World → Prop} (hgd : o.guard = none) (s d : TypeId) (x : Operand) (ho : o.op = .convert s d x) (X v : Value) (hx : a.eval x = X)
    (hv : (convert s d X).run Tryz.prog w = .ok v w) (h : wpList Tryz.prog ops Q rest (a.put o.dst v) w) : wpList Tryz.prog ops Q (o :: rest) a w := by
  subst hx
  refine wpList_plain hgd fun _ hK => ?_
  unfold Oper.wp execOp
  simp only [ho, Sem.run_bind, Sem.run_pure, Result.andThen_ok]
  rw [hv]
  exact hK _ _ h
theorem slice65 (W : World) (b j : Nat) (hj : j ≤ 64) : (Instr.sliceAt 453 (.pointer (some ⟨b, 0, none⟩)) (some (.int .i64 (j : Int))) none none).run Tryz.prog W = .ok (.slice (some ⟨b, j, none⟩) (65 - j) (65 - j)) W := by
  have hal : Tryz.prog.arrayLen 453 = 65 := by kernel_rfl
  have hel : Tryz.prog.elem 453 = 5 := by kernel_rfl
  have hs : (sizeOf 5).run Tryz.prog W = .ok 1 W := Tryz.sizeOf5 W
  have ht : Tryz.prog.underlying 453 = some (.array 65 5) := Tryz.underlying453
  rw [run_sliceAt_array_l W 453 ⟨b, 0, none⟩ (by simp [Program.arrayLen, Program.elem, ht]) .i64 (j : Int) (by omega) (by rw [hal]; omega), hel, hs, hal]
  simp [slicedAt]
  rw [if_neg (by omega)]
  unfold Addr.add
  split
  · next h0 => simp [h0]
  · simp
theorem Deb.below {w w' : World} (h : Deb w) (hb : Below w.heap.size w w') : Deb w' := by
  have h8 : 8 < w.heap.size := by
    rcases Nat.lt_or_ge 8 w.heap.size with h1 | h1
    · exact h1
    · exfalso
      unfold Deb World.cell? at h
      simp [Array.getElem?_eq_none h1] at h
  exact (hb.cell (p := ⟨8, 15, none⟩) h8).trans h
def rowH (acc : List UInt8) : Array Value := (List.replicate (65 - acc.length) (Value.int .u8 0) ++ acc.map (fun b => Value.int .u8 (b.toNat : Int))).toArray
theorem rowH_size {acc : List UInt8} (h : acc.length ≤ 65) : (rowH acc).size = 65 := by simp [rowH]; omega
theorem rowH_set {acc : List UInt8} {j : Nat} (b : UInt8) (h : j + 1 + acc.length = 65) : (rowH acc).setIfInBounds j (.int .u8 (b.toNat : Int)) = rowH (b :: acc) := by
  unfold rowH
  rw [List.setIfInBounds_toArray]
  congr 1
  have e1 : 65 - acc.length = j + 1 := by omega
  have e2 : 65 - (b :: acc).length = j := by simp only [List.length_cons]; omega
  rw [e1, e2, List.set_append_left _ _ (by simp), List.replicate_succ', List.set_append_right _ _ (by simp)]
  simp
theorem rowH_cell {acc : List UInt8} {w : World} {g j : Nat} (h : w.heap[g]? = some (.cells (rowH acc) 453 (0, 0))) (hj : j + acc.length = 65) (k : Nat) (hk : k < acc.length) : w.cell? ((⟨g, j, none⟩ : Addr).add k) = some (.int .u8 (acc[k].toNat : Int)) := by
  have ea : (⟨g, j, none⟩ : Addr).add k = ⟨g, j + k, none⟩ := by
    unfold Addr.add
    split
    · next h0 => simp [h0]
    · rfl
  rw [ea, (rcell h).1]
  unfold rowH
  have e1 : 65 - acc.length = j := by omega
  rw [e1]
  simp [List.getElem?_append_right, hk]

set_option maxRecDepth 100000 in
set_option maxHeartbeats 8000000 in
theorem lib_bits (n : Nat) (hn : n < 18446744073709551616) (w : World) (h : Deb w) :
    Calls Tryz.prog 234 #[.slice none 0 0, .int .u64 (n : Int), .int .i64 16, .bool false, .bool false] w fun e w' => e = .returned (.tuple #[.slice none 0 0, .string ⟨(hexL n).toArray⟩]) ∧ Below w.heap.size w w' := by
  have HD := hide h
  clear h
  go_enter Tryz.func234, Tryz.ntmps234
  go_wp2_with fail
  have hz : Tryz.zeroCells453 = rowH [] := by kernel_rfl
  rw [hz]
  have hb1 := bA (b0 w) (.cells (rowH []) 453)
  have f1 := na w (rowH []) 453
  generalize w.alloc (.cells (rowH []) 453) = w1 at *
  have HD1 := hide (HD.out.below hb1)
  clear hz HD
  refine (lib_pow2 _).mono ?_
  rintro e w2 ⟨rfl, rfl⟩
  go_wp2_with fail
  refine (lib_trail _ HD1.out).mono ?_
  rintro e w3 ⟨rfl, rfl⟩
  clear HD1
  go_wp2_with fail
  go_loopw [1, 13] (fun v1 v13 wr => ∃ (u i : Nat) (acc : List UInt8), v1 = .int .u64 (u : Int) ∧ v13 = .int .i64 (i : Int) ∧ u ≤ n ∧ Hid (hexL n = hexL u ++ acc) ∧ Hid (i + acc.length = 65) ∧ Hid (u * 16 ^ acc.length ≤ n ∧ (acc = [] ∨ 1 ≤ u)) ∧ (wr.heap[w.heap.size]? = some (.cells (rowH acc) 453 (0, 0))) ∧ Hid (Below w.heap.size w wr)) (fun v1 _ _ => (intOf v1).toNat)
  case atStart => exact ⟨n, 65, [], rfl, rfl, Nat.le_refl _, hide (by simp), hide rfl, hide ⟨by simp, .inl rfl⟩, f1, hide hb1⟩
  case round =>
    obtain ⟨u, i, acc, rfl, rfl, hu, HX, HIA, HU, fr, HB⟩ := hrel
    have hacc : acc.length ≤ 15 := by
      rcases Nat.lt_or_ge 15 acc.length with h15 | h15
      · obtain ⟨h1, h3⟩ := HU.out
        have h2 : 16 ^ 16 ≤ 16 ^ acc.length := Nat.pow_le_pow_right (by decide) h15
        rcases h3 with rfl | hu0
        · simp at h15
        · have : 1 * 16 ^ 16 ≤ u * 16 ^ acc.length := Nat.mul_le_mul hu0 h2
          omega
      · exact h15
    obtain ⟨j, hj⟩ : ∃ j, i = j + 1 := ⟨i - 1, by have := HIA.out; omega⟩
    have HJ := hide (show j + 1 + acc.length = 65 by have := HIA.out; omega)
    subst hj
    have hj64 : j ≤ 64 := by have := HJ.out; omega
    have hm := and15 u (by omega)
    have hdg := digs_at (u % 16) (Nat.mod_lt _ (by decide))
    have hrs := rowH_size (acc := acc) (by omega)
    by_cases h16 : 16 ≤ u
    · have e1 : decide ((16 : Int) ≤ (u : Int)) = true := decide_eq_true (by omega)
      go_wp2_with (first
        | (refine wpList_indexX rfl 9 _ _ rfl (.string digs) (.int .u64 ((u % 16 : Nat) : Int)) _ rfl rfl (hdg _) ?_; simp only [Act.put, List.setIfInBounds_toArray, List.set_cons_zero, List.set_cons_succ])
        | (refine wpList_storeI rfl 5 _ _ rfl w.heap.size j 453 (rowH acc) .u8 _ rfl rfl fr (by rw [hrs]; omega) (fun w => Tryz.sizeOf5 w) ?_; rw [rowH_set _ HJ.out]; generalize hT4 : setRow wr _ _ = w4; obtain ⟨hx4, f4⟩ := fin_x (b0 _) fr hT4; have HB4 := hide (bX HB.out hx4 (Nat.le_refl _)); clear hT4 hx4))
      refine ⟨⟨u / 16, j, hexC (u % 16) :: acc, by simp, rfl, by omega, hide ?_, hide (by have := HJ.out; simp only [List.length_cons]; omega), hide ⟨?_, .inr (by omega)⟩, f4, HB4⟩, ?_⟩
      · rw [HX.out, show hexL u = hexL (u / 16) ++ [hexC (u % 16)] by rw [hexL, if_neg (by omega)], List.append_assoc]
        rfl
      · have h1 := HU.out.1
        rw [List.length_cons, Nat.pow_succ, Nat.mul_comm (16 ^ acc.length) 16, ← Nat.mul_assoc]
        exact Nat.le_trans (Nat.mul_le_mul_right _ (Nat.div_mul_le_self u 16)) h1
      · simp [intOf]; omega
    · have e1 : decide ((16 : Int) ≤ (u : Int)) = false := decide_eq_false (by omega)
      have hdu := digs_at u (by omega)
      have HXE : Hid (hexL n = hexC u :: acc) := hide (by rw [HX.out, hexL, if_pos (by omega)]; rfl)
      have hle : (hexC u :: acc).length = 65 - j := by have := HJ.out; simp only [List.length_cons]; omega
      have hsl : ∀ W, (Instr.sliceAt 453 (.pointer (some ⟨w.heap.size, 0, none⟩)) (some (.int .i64 (j : Int))) none none).run Tryz.prog W = .ok (.slice (some ⟨w.heap.size, j, none⟩) (65 - j) (65 - j)) W := fun W => slice65 W w.heap.size j hj64
      clear hdg hm
      go_wp2_with (first
        | (refine wpList_indexX rfl 9 _ _ rfl (.string digs) (.int .u64 (u : Int)) _ rfl rfl (hdu _) ?_; simp only [Act.put, List.setIfInBounds_toArray, List.set_cons_zero, List.set_cons_succ])
        | (refine wpList_storeI rfl 5 _ _ rfl w.heap.size j 453 (rowH acc) .u8 _ rfl rfl fr (by rw [hrs]; omega) (fun w => Tryz.sizeOf5 w) ?_; rw [rowH_set _ HJ.out]; generalize hT4 : setRow wr _ _ = w4; obtain ⟨hx4, f4⟩ := fin_x (b0 _) fr hT4; have HB4 := hide (bX HB.out hx4 (Nat.le_refl _)); have hcv := run_convert_bytes_back (P := Tryz.prog) w4 114 9 5 ⟨w.heap.size, j, none⟩ (65 - j) (hexC u :: acc) Tryz.underlying114 Tryz.underlying5 Tryz.underlying9 (fun k hk => rowH_cell f4 (by omega) k hk); rw [hle] at hcv; clear hT4 hx4)
        | (refine wpList_convX rfl 114 9 _ rfl (.slice (some ⟨w.heap.size, j, none⟩) (65 - j) (65 - j)) _ rfl hcv ?_; simp only [Act.put, List.setIfInBounds_toArray, List.set_cons_zero, List.set_cons_succ]))
      go_ret2
      exact ⟨by rw [HXE.out]; rfl, HB4.out⟩
theorem lib_fmt16 (n : Nat) (hn : n < 18446744073709551616) (w : World) (h : Deb w) : Calls Tryz.prog 157 #[.int .u64 (n : Int), .int .i64 16] w fun e w' => e = .returned (.string ⟨(hexL n).toArray⟩) ∧ Below w.heap.size w w' := by
  have c183 := lib_bits n hn w h
  have c188 : Calls Tryz.prog 221 #[.int .u64 (n : Int), .int .i64 16] w fun e w' => e = .returned (.string ⟨(hexL n).toArray⟩) ∧ Below w.heap.size w w' := by
    generalize (⟨(hexL n).toArray⟩ : ByteArray) = S at *
    go_enter Tryz.func221, Tryz.ntmps221
    go_wp2_with fail
    refine c183.mono ?_
    rintro e w2 ⟨rfl, hb⟩
    go_wp2
    go_ret
    exact ⟨rfl, hb⟩
  generalize (⟨(hexL n).toArray⟩ : ByteArray) = S at *
  go_enter Tryz.func157, Tryz.ntmps157
  go_wp2_with fail
  refine c188.mono ?_
  rintro e w2 ⟨rfl, hb⟩
  go_wp2
  go_ret
  exact ⟨rfl, hb⟩
end Go.Proofs.YtbiedfkmmcaplaaGreatDoor

/-
  DERIVED: THE SHELF's CONTRACTS AT THIS DUMP, IN PLAIN WORDS (tools/lay-plain.mjs out of 'TryzShelf.lean', which tools/lay-shelf.mjs wrote): THE SAME DECLARATIONS UNDER THE SAME NAMES: 'import', 'namespace', 'open', 'def', 'theorem' AND NOTHING ELSE: no command of the shelf's: FOR A HAND-IN. Each laying: the table of numbers ('.._ren') and one theorem, a field a fact of the dump's own or the kernel's comparison; each contract: ONE APPLICATION.
-/

namespace Go.Proofs.YtbiedfkmmcaplaaGreatDoor
open Go.RowKit
attribute [local go_sem] Oper.semAt_some

def hexB (n : Nat) : ByteArray := ⟨(hexF 16 n).toArray⟩
theorem hexB_size (n : Nat) : (hexB n).size = 16 := by show (hexF 16 n).toArray.size = 16; simp [hexF_len]
theorem rep48 (k : Nat) : Lib.repeatL [48] k = List.replicate k 48 := by
  induction k with
  | zero => rfl
  | succ k ih => rw [Lib.repeatL, ih]; rfl
theorem con_hex (n : Nat) (hn : n < 18446744073709551616) (w : World) (h : Deb w) : Calls Tryz.prog 85 #[.int .u64 (n : Int)] w fun e w' => e = .returned (.string (hexB n)) ∧ Below w.heap.size w w' := by
  obtain ⟨h1, h2⟩ := hexF_is 15 n (by simpa using hn)
  have c1 := lib_fmt16 n hn w h
  obtain ⟨S, hS⟩ : ∃ S : ByteArray, S = ⟨(hexL n).toArray⟩ := ⟨_, rfl⟩
  have hSz : S.size = (hexL n).length := by rw [hS]; rfl
  obtain ⟨k, hk⟩ : ∃ k, k = 16 - S.size := ⟨_, rfl⟩
  have hks : k + S.size = 16 := by omega
  have HE : Hid ((⟨(Lib.repeatL (⟨#[48]⟩ : ByteArray).data.toList k).toArray⟩ : ByteArray) ++ S = hexB n) := hide (by
    apply ByteArray.ext
    rw [ByteArray.data_append]
    unfold hexB
    rw [h2, hS, hk, hSz]
    rw [show (⟨#[48]⟩ : ByteArray).data.toList = [48] from rfl, rep48]
    simp)
  have c2 := fun W => Tryz.strings_Repeat ⟨#[48]⟩ k W (by omega) (by show 1 * k ≤ _; omega)
  have e1 : (16 : Int) - (S.size : Int) = (k : Int) := by omega
  rw [← hS] at c1
  clear h1 h2 hSz hk hS
  go_enter Tryz.func85, Tryz.ntmps85
  go_wp2_with fail
  refine c1.mono ?_
  rintro e w2 ⟨rfl, hb2⟩
  go_wp2_with fail
  refine (c2 _).mono ?_
  rintro e w3 ⟨rfl, hb3⟩
  have hB := hide (bB hb2 hb3)
  have hps : (⟨(Lib.repeatL (⟨#[48]⟩ : ByteArray).data.toList k).toArray⟩ : ByteArray).size ≤ 16 := by
    show (Lib.repeatL [48] k).toArray.size ≤ 16
    rw [rep48]; simp; omega
  have hss : S.size ≤ 16 := by omega
  generalize (⟨(Lib.repeatL (⟨#[48]⟩ : ByteArray).data.toList k).toArray⟩ : ByteArray) = P at *
  clear hb2 hb3 c1 c2
  go_wp2
  go_ret
  exact ⟨by rw [HE.out]; rfl, hB.out⟩
end Go.Proofs.YtbiedfkmmcaplaaGreatDoor

namespace Go.Proofs.YtbiedfkmmcaplaaGreatDoor
open Go.RowKit
attribute [local go_sem] Oper.semAt_some

structure CmOK (c : Cm) : Prop where
  n : i64In c.n
  me : i64In c.me
  mf : i64In c.mf
  ms : i64In c.ms
  qa : i64In c.qa
  qb : i64In c.qb
  qN : i64In c.qN
  t : i64In c.t
  bits : 0 ≤ c.bits ∧ c.bits < 18446744073709551616
  masks : ∀ x ∈ c.masks, i64In x
  pts : ∀ p ∈ c.pts, i64In p.1 ∧ i64In p.2
  mlen : c.masks.length ≤ 1000
  plen : c.pts.length ≤ 1000
def cWords (c : Cm) : List ByteArray :=
  if c.kind = 2 then [wPower, itoaB c.n] else if c.kind = 3 then [wCrash] ++ c.masks.map itoaB else if c.kind ≠ 1 then []
  else if c.ok = 1 then cMut c.mkd c.mn c.me c.mf c.ms c.pts else if c.ok = 2 then [wSync] else if c.ok = 3 then [wFlush] else if c.ok = 4 then [wCompact]
  else if c.ok = 5 then cAsk c.qk c.qn c.qa c.qb c.qw c.qN else if c.ok = 6 then [wRead, c.nm, itoaB c.t, hexB c.bits.toNat] else []

theorem step_growV {W : World} {ops : List Oper} {Q : Act → Abs.St → Prop} {rest : List Nat} {i : Nat} {o : Oper} {a : Act} {s : Abs.St} (ho : ops[i]? = some o) (hw : Region.wanted o (yielded ops.toArray a.tmps) = true) (hk : Abs.kindOf o = .k) (ht : s.t = false)
    (x y : Operand) (hop : o.op = .call { callee := .builtin .append, args := #[x, y], argTypes := #[45, 45] }) (l m : List Value) (g : Nat) (A : Option Addr) (n k c : Nat) (hx : a.eval x = .slice (some ⟨g, 0, none⟩) n n) (hn : n = l.length) (hy : a.eval y = .slice A k c) (hkm : k = m.length) (h0 : 0 < m.length) (hlen : l.length + m.length ≤ 1048576)
    (hc : ∀ w, Below W.heap.size W w → (∀ j, Abs.reach ops.toArray i j = true → s.F j w) → w.heap[g]? = some (.cells l.toArray 9 (0, 0)) ∧ InV w A m)
    (h2 : ∀ K : Act → Abs.St → Prop, (∀ a s, Abs.wpOrd Tryz.prog ops.toArray (Abs.cls0 W) Q rest a s → K a s) → ∀ v w, OwnV 9 W.heap.size w v (l ++ m) → K (a.put o.dst v) (s.setF i (fun w => OwnV 9 W.heap.size w v (l ++ m)))) : Abs.wpOrd Tryz.prog ops.toArray (Abs.cls0 W) Q (i :: rest) a s := by
  subst hn hkm
  refine Abs.step_does0 ho (.inr (.inl ⟨hw, hk, ht, fun v w => OwnV 9 W.heap.size w v (l ++ m), fun v => Cl_OwnV, fun w hI hF => ?_, fun v hg => ?_⟩))
  · obtain ⟨c1, c2⟩ := hc w hI hF
    obtain ⟨i0, hi0, hz0, hz1, hz2⟩ := info_parts str_info
    have k1 : ∀ j u, l[j]? = some u → w.cell? ((⟨g, 0, none⟩ : Addr).add j) = some u := fun j u hu => by
      rw [show (⟨g, 0, none⟩ : Addr).add j = ⟨g, j, none⟩ by
        unfold Addr.add
        split
        · next h0 => simp [h0]
        · simp]
      rw [(rcell c1).1]; simpa using hu
    obtain ⟨ad, rfl, -, k3⟩ := c2 h0
    have k2 : ∀ j u, m[j]? = some u → w.cell? (ad.add j) = some u := fun j u hu => by
      have hj := (List.getElem?_eq_some_iff.1 hu).1
      rw [k3 j hj, ← hu, List.getElem?_eq_getElem hj]
    obtain ⟨v', w', hrun, hown, hgr⟩ := run_append_arg_grows (P := Tryz.prog) (w := w) 45 o.type 9 i0 (.string ByteArray.empty) 1 16 Tryz.underlying45 hi0 hz0 hz1 hz2 rfl (by decide) ⟨g, 0, none⟩ l.length l.length l (by omega) k1 ad m.length c m (by omega) k2 (by omega) (by simp only [maxLen]; omega) (by omega)
    unfold Abs.nonq
    have he : (execOp a.eval o).run Tryz.prog w = .ok (.value v') w' := by
      unfold execOp
      simp only [hop, resolve, invoke, builtin, Sem.run_bind, Sem.run_pure, Result.andThen_ok, List.map_toArray, List.map_cons, List.map_nil, hx, hy]
      rw [hrun]
      rfl
    rw [he]
    obtain ⟨r1, r2, r3, r4, r5⟩ := hgr
    refine ⟨⟨r1, r2, r3, r4, fun k hk _ => r5 k hk (by intro e; cases e)⟩, ?_⟩
    obtain ⟨o1, o2⟩ := hown
    refine ⟨by simp, ?_⟩
    rcases o2 with ⟨rfl, e⟩ | ⟨b, cap, cur, rfl, hb, hg, hn, hm, hs, ht⟩
    · exfalso; omega
    · exact .inr ⟨b, cap, cur, by rw [List.length_append], Nat.le_trans hI.size hb, hg, by rw [List.length_append]; exact hn, hm, hs, by simpa using ht⟩
  · obtain ⟨⟨w, _, w0, _, hF, _⟩, _⟩ := hg
    exact h2 _ (fun _ _ h => h) v w0 ((hF i).2 rfl)
end Go.Proofs.YtbiedfkmmcaplaaGreatDoor

namespace Go.Proofs.YtbiedfkmmcaplaaGreatDoor
open Go.RowKit
attribute [local go_sem] Oper.semAt_some

set_option maxRecDepth 100000 in
set_option maxHeartbeats 16000000 in
theorem con_words (c : Cm) (hc : CmOK c) (A : Option Addr) (ac : Nat) (M : Option Addr) (mc : Nat) (w : World) (hL : Laid w) (hD : Deb w) (hA : InV w A (ptsV c.pts)) (hM : InV w M (intV c.masks)) :
    Calls Tryz.prog 30 #[.agg (c.cs A ac M mc)] w fun e w' => ∃ v, e = .returned v ∧ RowsS w' v (cWords c) ∧ Below w.heap.size w w' := by
  obtain ⟨R, hR⟩ : ∃ R, R = cWords c := ⟨_, rfl⟩
  rw [← hR]
  unfold cWords at hR
  obtain ⟨cn, cme, cmf, cms, cqa, cqb, cqN, ct, cbits, cmasks, cpts, cml, cpl⟩ := hc
  obtain ⟨kind, ok, mkd, mnn, me, mf, ms, pts, qk, qn, qa, qb, qw, qN, nm, t, bits, n, masks⟩ := c
  unfold Cm.cs cmdCs
  simp only at *
  obtain ⟨pn, hpn⟩ : ∃ pn, pn = pts.length := ⟨_, rfl⟩
  obtain ⟨mn, hmn⟩ : ∃ mn, mn = masks.length := ⟨_, rfl⟩
  rw [← hpn, ← hmn]
  have hmn2 : mn ≤ 1000 := by omega
  have HPN := hide hpn
  have HMN := hide hmn
  have HL := hide (fun W (hb : Below w.heap.size w W) => hL.below hb)
  have HDB := hide (fun W (hb : Below w.heap.size w W) => hD.below hb)
  have HA := hide (fun W (hb : Below w.heap.size w W) => hA.below hb)
  have HM := hide (fun W (hb : Below w.heap.size w W) => hM.below hb)
  have HI := hide (And.intro cn (And.intro cme (And.intro cmf (And.intro cms (And.intro cqa (And.intro cqb (And.intro cqN ct)))))))
  have HBI := hide cbits
  have HMS := hide cmasks
  have HPS := hide cpts
  have HPL := hide cpl
  clear hL hD hA hM hpn hmn cn cme cmf cms cqa cqb cqN ct cbits cmasks cpts cml cpl
  by_cases h2 : kind = 2
  · subst h2
    rw [if_pos rfl] at hR
    have HR := hide hR
    have hO : OwnV 9 w.heap.size ((w.alloc (.cells #[.int .i64 2, .int .i64 ok, .int .i64 mkd, .string mnn, .int .i64 me, .int .i64 mf, .int .i64 ms, .slice A pn ac, .int .i64 qk, .string qn, .int .i64 qa, .int .i64 qb, .int .i64 qw, .int .i64 qN, .string nm, .int .i64 t, .int .u64 bits, .int .i64 n, .slice M mn mc] 38)).alloc (.cells #[.string wPower] 9)) (.slice (some ⟨(w.alloc (.cells #[.int .i64 2, .int .i64 ok, .int .i64 mkd, .string mnn, .int .i64 me, .int .i64 mf, .int .i64 ms, .slice A pn ac, .int .i64 qk, .string qn, .int .i64 qa, .int .i64 qb, .int .i64 qw, .int .i64 qN, .string nm, .int .i64 t, .int .u64 bits, .int .i64 n, .slice M mn mc] 38)).heap.size, 0, none⟩) 1 1) (strV [wPower]) := OwnV.built (w.alloc (.cells #[.int .i64 2, .int .i64 ok, .int .i64 mkd, .string mnn, .int .i64 me, .int .i64 mf, .int .i64 ms, .slice A pn ac, .int .i64 qk, .string qn, .int .i64 qa, .int .i64 qb, .int .i64 qw, .int .i64 qN, .string nm, .int .i64 t, .int .u64 bits, .int .i64 n, .slice M mn mc] 38)) [.string wPower] (by simp) (by simp)
    simp only [World.size_alloc] at hO
    have hb1 : Below w.heap.size w ((w.alloc (.cells #[.int .i64 2, .int .i64 ok, .int .i64 mkd, .string mnn, .int .i64 me, .int .i64 mf, .int .i64 ms, .slice A pn ac, .int .i64 qk, .string qn, .int .i64 qa, .int .i64 qb, .int .i64 qw, .int .i64 qN, .string nm, .int .i64 t, .int .u64 bits, .int .i64 n, .slice M mn mc] 38)).alloc (.cells #[.string wPower] 9)) := bA (bA (b0 w) _) _
    have fr := kp (bA (b0 _) (.cells #[.string wPower] 9)) (na w #[.int .i64 2, .int .i64 ok, .int .i64 mkd, .string mnn, .int .i64 me, .int .i64 mf, .int .i64 ms, .slice A pn ac, .int .i64 qk, .string qn, .int .i64 qa, .int .i64 qb, .int .i64 qw, .int .i64 qN, .string nm, .int .i64 t, .int .u64 bits, .int .i64 n, .slice M mn mc] 38)
    have z1 := (rcell fr).1
    have HO := hide hO
    have HB1 := hide hb1
    clear hO hb1 fr hR
    go_enter Tryz.func30, Tryz.ntmps30
    go_wp2_with fail
    clear z1
    refine (con_nums [n] (by simp) (one_in HI.out.1) _ 1 _ ((w.alloc (.cells #[.int .i64 2, .int .i64 ok, .int .i64 mkd, .string mnn, .int .i64 me, .int .i64 mf, .int .i64 ms, .slice A pn ac, .int .i64 qk, .string qn, .int .i64 qa, .int .i64 qb, .int .i64 qw, .int .i64 qN, .string nm, .int .i64 t, .int .u64 bits, .int .i64 n, .slice M mn mc] 38)).alloc (.cells #[.string wPower] 9)) rfl rfl (by simp) (HL.out _ HB1.out)).mono ?_
    rintro e' w5 ⟨A5, rfl, hb5, hr5⟩
    have hb15 := bB (bA (b0 ((w.alloc (.cells #[.int .i64 2, .int .i64 ok, .int .i64 mkd, .string mnn, .int .i64 me, .int .i64 mf, .int .i64 ms, .slice A pn ac, .int .i64 qk, .string qn, .int .i64 qa, .int .i64 qb, .int .i64 qw, .int .i64 qN, .string nm, .int .i64 t, .int .u64 bits, .int .i64 n, .slice M mn mc] 38)).alloc (.cells #[.string wPower] 9))) (.cells #[.int .i64 n] 2)) hb5
    have HO5 := hide (HO.out.lift hb15)
    have HI5 := hide hr5.inV
    have HB5 := hide (HB1.out.trans (hb15.mono (by simp; omega)))
    have hs5 : w.heap.size ≤ w5.heap.size := HB5.out.size
    clear hb5 hr5 hb15
    go_wp2_with (refine wpList_pushV rfl _ _ _ rfl 16 Tryz.underlying45 str_info rfl (by decide) w.heap.size _ _ (strV [itoaB n]) _ _ rfl rfl HO5.out HI5.out (strV_one _) (by simp [strV]) hs5 ?_; intro v6 w6 hO6 hlow6 hsz6)
    go_ret
    refine ⟨_, rfl, ?_, hlow6 w HB5.out⟩
    rw [HR.out]
    exact RowsS.of (ss := [wPower, itoaB n]) hO6
  rw [if_neg h2] at hR
  have m2 : (kind == 2) = false := beq_eq_false_iff_ne.2 h2
  have m2' : decide (kind = 2) = false := decide_eq_false h2
  by_cases h3 : kind = 3
  · subst h3
    rw [if_pos rfl] at hR
    have HR := hide hR
    have hO : OwnV 9 w.heap.size ((w.alloc (.cells #[.int .i64 3, .int .i64 ok, .int .i64 mkd, .string mnn, .int .i64 me, .int .i64 mf, .int .i64 ms, .slice A pn ac, .int .i64 qk, .string qn, .int .i64 qa, .int .i64 qb, .int .i64 qw, .int .i64 qN, .string nm, .int .i64 t, .int .u64 bits, .int .i64 n, .slice M mn mc] 38)).alloc (.cells #[.string wCrash] 9)) (.slice (some ⟨(w.alloc (.cells #[.int .i64 3, .int .i64 ok, .int .i64 mkd, .string mnn, .int .i64 me, .int .i64 mf, .int .i64 ms, .slice A pn ac, .int .i64 qk, .string qn, .int .i64 qa, .int .i64 qb, .int .i64 qw, .int .i64 qN, .string nm, .int .i64 t, .int .u64 bits, .int .i64 n, .slice M mn mc] 38)).heap.size, 0, none⟩) 1 1) (strV [wCrash]) := OwnV.built (w.alloc (.cells #[.int .i64 3, .int .i64 ok, .int .i64 mkd, .string mnn, .int .i64 me, .int .i64 mf, .int .i64 ms, .slice A pn ac, .int .i64 qk, .string qn, .int .i64 qa, .int .i64 qb, .int .i64 qw, .int .i64 qN, .string nm, .int .i64 t, .int .u64 bits, .int .i64 n, .slice M mn mc] 38)) [.string wCrash] (by simp) (by simp)
    simp only [World.size_alloc] at hO
    have hb1 : Below w.heap.size w ((w.alloc (.cells #[.int .i64 3, .int .i64 ok, .int .i64 mkd, .string mnn, .int .i64 me, .int .i64 mf, .int .i64 ms, .slice A pn ac, .int .i64 qk, .string qn, .int .i64 qa, .int .i64 qb, .int .i64 qw, .int .i64 qN, .string nm, .int .i64 t, .int .u64 bits, .int .i64 n, .slice M mn mc] 38)).alloc (.cells #[.string wCrash] 9)) := bA (bA (b0 w) _) _
    have fr := kp (bA (b0 _) (.cells #[.string wCrash] 9)) (na w #[.int .i64 3, .int .i64 ok, .int .i64 mkd, .string mnn, .int .i64 me, .int .i64 mf, .int .i64 ms, .slice A pn ac, .int .i64 qk, .string qn, .int .i64 qa, .int .i64 qb, .int .i64 qw, .int .i64 qN, .string nm, .int .i64 t, .int .u64 bits, .int .i64 n, .slice M mn mc] 38)
    have z1 := (rcell fr).1
    have HO := hide hO
    have HB1 := hide hb1
    clear hO hb1 fr hR m2 m2' h2
    go_enter Tryz.func30, Tryz.ntmps30
    go_wp2_with fail
    clear z1
    go_loopw [3, 24] (fun v3 v24 wr => ∃ k : Nat, v24 = .int .i64 (k : Int) ∧ k ≤ mn ∧ Hid (OwnV 9 w.heap.size wr v3 (strV ([wCrash] ++ (masks.take k).map itoaB))) ∧ Hid (Below w.heap.size w wr)) (fun _ v24 _ => mn - (intOf v24).toNat)
    case atStart => exact ⟨0, rfl, by omega, by simp only [List.take_zero, List.map_nil, List.append_nil]; exact HO, HB1⟩
    case round =>
      obtain ⟨k, rfl, hk, HOk, HBr⟩ := hrel
      by_cases hlt : k < mn
      · have e1 : decide ((k : Int) < (mn : Int)) = true := decide_eq_true (by omega)
        have hk1 : k < masks.length := by have := HMN.out; omega
        have hMr := HM.out wr HBr.out
        obtain ⟨adM, rfl, -, hcM⟩ := hMr (by rw [intV_len]; omega)
        have c1 := hcM k (by rw [intV_len]; omega)
        have HX := hide (HMS.out _ (List.getElem_mem hk1))
        have HW : Hid (strV ([wCrash] ++ (masks.take (k + 1)).map itoaB) = strV ([wCrash] ++ (masks.take k).map itoaB) ++ strV [itoaB masks[k]]) := hide (by
          rw [← strV_app, List.take_succ_eq_append_getElem hk1, List.map_append, ← List.append_assoc]; rfl)
        have HLN : Hid ((strV ([wCrash] ++ (masks.take k).map itoaB)).length ≤ 4000) := hide (by
          rw [strV_len, List.length_append, List.length_map, List.length_take]
          simp only [List.length_cons, List.length_nil]
          omega)
        have ex : (intV masks)[k]'(by rw [intV_len]; omega) = .int .i64 masks[k] := by simp [intV]
        rw [ex] at c1
        generalize masks[k] = x at *
        clear hcM ex hk1 hMr
        go_wp2_with fail
        refine (con_nums [x] (by simp) (one_in HX.out) _ 1 _ wr rfl rfl rfl (HL.out _ HBr.out)).mono ?_
        rintro e' w5 ⟨A5, rfl, hb5, hr5⟩
        have HB5 := hide (bB (bA (b0 wr) (.cells #[.int .i64 x] 2)) hb5)
        have HO5 := hide (HOk.out.lift HB5.out)
        have HI5 := hide hr5.inV
        have hs5 : w.heap.size ≤ w5.heap.size := (bB HBr.out HB5.out).size
        clear hb5 hr5 c1
        go_wp2_with (refine wpList_pushV rfl _ _ _ rfl 16 Tryz.underlying45 str_info rfl (by decide) w.heap.size _ _ (strV [itoaB x]) _ _ rfl rfl HO5.out HI5.out (strV_one _) (by have := HLN.out; simp only [strV_len, List.length_cons, List.length_nil] at this ⊢; omega) hs5 ?_; intro v6 w6 hO6 hlow6 hsz6)
        have HB6 := hide (hlow6 w (bB HBr.out HB5.out))
        have HO6 := hide hO6
        clear hlow6 hO6
        go_roundw
        case rel => exact ⟨k + 1, by go_num, by omega, hide (by rw [HW.out]; exact HO6.out), HB6⟩
        case measure => simp [intOf]; omega
      · have e1 : decide ((k : Int) < (mn : Int)) = false := decide_eq_false (by omega)
        have HE2 : Hid (R = [wCrash] ++ (masks.take k).map itoaB) := hide (by rw [HR.out, List.take_of_length_le (by have := HMN.out; omega)])
        go_wp2_with fail
        go_ret
        exact ⟨_, rfl, by rw [HE2.out]; exact RowsS.of HOk.out, HBr.out⟩
  rw [if_neg h3] at hR
  have m3 : (kind == 3) = false := beq_eq_false_iff_ne.2 h3
  have m3' : decide (kind = 3) = false := decide_eq_false h3
  by_cases h1 : ¬ kind = 1
  · rw [if_pos h1] at hR
    have HR := hide hR
    have n1 : (kind == 1) = false := beq_eq_false_iff_ne.2 h1
    have n1' : decide (kind = 1) = false := decide_eq_false h1
    have n2 : (kind != 1) = true := by simpa using h1
    have hb := bA (b0 w) (.cells #[.int .i64 kind, .int .i64 ok, .int .i64 mkd, .string mnn, .int .i64 me, .int .i64 mf, .int .i64 ms, .slice A pn ac, .int .i64 qk, .string qn, .int .i64 qa, .int .i64 qb, .int .i64 qw, .int .i64 qN, .string nm, .int .i64 t, .int .u64 bits, .int .i64 n, .slice M mn mc] 38)
    go_enter Tryz.func30, Tryz.ntmps30
    go_wp2_with fail
    go_ret
    exact ⟨_, rfl, by rw [HR.out]; exact RowsS.nil _, hb⟩
  replace h1 := Classical.not_not.1 h1
  subst h1
  rw [if_neg (by simp)] at hR
  clear m2 m2' m3 m3' h2 h3
  by_cases o1 : ok = 1
  · subst o1
    rw [if_pos rfl] at hR
    have HR := hide hR
    clear hR
    have hb := bA (b0 w) (.cells #[.int .i64 1, .int .i64 1, .int .i64 mkd, .string mnn, .int .i64 me, .int .i64 mf, .int .i64 ms, .slice A pn ac, .int .i64 qk, .string qn, .int .i64 qa, .int .i64 qb, .int .i64 qw, .int .i64 qN, .string nm, .int .i64 t, .int .u64 bits, .int .i64 n, .slice M mn mc] 38)
    have HB := hide hb
    go_enter Tryz.func30, Tryz.ntmps30
    go_wp2_with fail
    rw [HPN.out]
    refine (con_mutation mkd mnn me mf ms HI.out.2.1 HI.out.2.2.1 HI.out.2.2.2.1 A ac pts HPS.out HPL.out _ (HL.out _ (by rw [← HPN.out]; exact HB.out)) (HA.out _ (by rw [← HPN.out]; exact HB.out))).mono ?_
    rintro e' w5 ⟨v5, rfl, hr5, hb5⟩
    rw [← HPN.out] at hb5
    have hbb := hide (bB HB.out hb5)
    have HR5 := hide hr5
    clear hb5 hr5
    go_wp2_with fail
    go_ret
    exact ⟨_, rfl, by rw [HR.out]; exact HR5.out, hbb.out⟩
  rw [if_neg o1] at hR
  have k1 : (ok == 1) = false := beq_eq_false_iff_ne.2 o1
  have k1' : decide (ok = 1) = false := decide_eq_false o1
  by_cases o2 : ok = 2
  · subst o2
    rw [if_pos rfl] at hR
    have HR := hide hR
    clear hR
    have hb2 := bA (bA (b0 w) (.cells #[.int .i64 1, .int .i64 2, .int .i64 mkd, .string mnn, .int .i64 me, .int .i64 mf, .int .i64 ms, .slice A pn ac, .int .i64 qk, .string qn, .int .i64 qa, .int .i64 qb, .int .i64 qw, .int .i64 qN, .string nm, .int .i64 t, .int .u64 bits, .int .i64 n, .slice M mn mc] 38)) (.cells #[.string wSync] 9)
    have hO : RowsS ((w.alloc (.cells #[.int .i64 1, .int .i64 2, .int .i64 mkd, .string mnn, .int .i64 me, .int .i64 mf, .int .i64 ms, .slice A pn ac, .int .i64 qk, .string qn, .int .i64 qa, .int .i64 qb, .int .i64 qw, .int .i64 qN, .string nm, .int .i64 t, .int .u64 bits, .int .i64 n, .slice M mn mc] 38)).alloc (.cells #[.string wSync] 9)) (.slice (some ⟨(w.alloc (.cells #[.int .i64 1, .int .i64 2, .int .i64 mkd, .string mnn, .int .i64 me, .int .i64 mf, .int .i64 ms, .slice A pn ac, .int .i64 qk, .string qn, .int .i64 qa, .int .i64 qb, .int .i64 qw, .int .i64 qN, .string nm, .int .i64 t, .int .u64 bits, .int .i64 n, .slice M mn mc] 38)).heap.size, 0, none⟩) 1 1) [wSync] := RowsS.of (B := w.heap.size) (OwnV.built (w.alloc (.cells #[.int .i64 1, .int .i64 2, .int .i64 mkd, .string mnn, .int .i64 me, .int .i64 mf, .int .i64 ms, .slice A pn ac, .int .i64 qk, .string qn, .int .i64 qa, .int .i64 qb, .int .i64 qw, .int .i64 qN, .string nm, .int .i64 t, .int .u64 bits, .int .i64 n, .slice M mn mc] 38)) [.string wSync] (by simp) (by simp))
    simp only [World.size_alloc] at hO
    have HO := hide hO
    have HB2 := hide hb2
    clear hO hb2
    go_enter Tryz.func30, Tryz.ntmps30
    go_wp2_with fail
    go_ret
    exact ⟨_, rfl, by rw [HR.out]; exact HO.out, HB2.out⟩
  rw [if_neg o2] at hR
  have k2 : (ok == 2) = false := beq_eq_false_iff_ne.2 o2
  have k2' : decide (ok = 2) = false := decide_eq_false o2
  by_cases o3 : ok = 3
  · subst o3
    rw [if_pos rfl] at hR
    have HR := hide hR
    clear hR
    have hb2 := bA (bA (b0 w) (.cells #[.int .i64 1, .int .i64 3, .int .i64 mkd, .string mnn, .int .i64 me, .int .i64 mf, .int .i64 ms, .slice A pn ac, .int .i64 qk, .string qn, .int .i64 qa, .int .i64 qb, .int .i64 qw, .int .i64 qN, .string nm, .int .i64 t, .int .u64 bits, .int .i64 n, .slice M mn mc] 38)) (.cells #[.string wFlush] 9)
    have hO : RowsS ((w.alloc (.cells #[.int .i64 1, .int .i64 3, .int .i64 mkd, .string mnn, .int .i64 me, .int .i64 mf, .int .i64 ms, .slice A pn ac, .int .i64 qk, .string qn, .int .i64 qa, .int .i64 qb, .int .i64 qw, .int .i64 qN, .string nm, .int .i64 t, .int .u64 bits, .int .i64 n, .slice M mn mc] 38)).alloc (.cells #[.string wFlush] 9)) (.slice (some ⟨(w.alloc (.cells #[.int .i64 1, .int .i64 3, .int .i64 mkd, .string mnn, .int .i64 me, .int .i64 mf, .int .i64 ms, .slice A pn ac, .int .i64 qk, .string qn, .int .i64 qa, .int .i64 qb, .int .i64 qw, .int .i64 qN, .string nm, .int .i64 t, .int .u64 bits, .int .i64 n, .slice M mn mc] 38)).heap.size, 0, none⟩) 1 1) [wFlush] := RowsS.of (B := w.heap.size) (OwnV.built (w.alloc (.cells #[.int .i64 1, .int .i64 3, .int .i64 mkd, .string mnn, .int .i64 me, .int .i64 mf, .int .i64 ms, .slice A pn ac, .int .i64 qk, .string qn, .int .i64 qa, .int .i64 qb, .int .i64 qw, .int .i64 qN, .string nm, .int .i64 t, .int .u64 bits, .int .i64 n, .slice M mn mc] 38)) [.string wFlush] (by simp) (by simp))
    simp only [World.size_alloc] at hO
    have HO := hide hO
    have HB2 := hide hb2
    clear hO hb2
    go_enter Tryz.func30, Tryz.ntmps30
    go_wp2_with fail
    go_ret
    exact ⟨_, rfl, by rw [HR.out]; exact HO.out, HB2.out⟩
  rw [if_neg o3] at hR
  have k3 : (ok == 3) = false := beq_eq_false_iff_ne.2 o3
  have k3' : decide (ok = 3) = false := decide_eq_false o3
  by_cases o4 : ok = 4
  · subst o4
    rw [if_pos rfl] at hR
    have HR := hide hR
    clear hR
    have hb2 := bA (bA (b0 w) (.cells #[.int .i64 1, .int .i64 4, .int .i64 mkd, .string mnn, .int .i64 me, .int .i64 mf, .int .i64 ms, .slice A pn ac, .int .i64 qk, .string qn, .int .i64 qa, .int .i64 qb, .int .i64 qw, .int .i64 qN, .string nm, .int .i64 t, .int .u64 bits, .int .i64 n, .slice M mn mc] 38)) (.cells #[.string wCompact] 9)
    have hO : RowsS ((w.alloc (.cells #[.int .i64 1, .int .i64 4, .int .i64 mkd, .string mnn, .int .i64 me, .int .i64 mf, .int .i64 ms, .slice A pn ac, .int .i64 qk, .string qn, .int .i64 qa, .int .i64 qb, .int .i64 qw, .int .i64 qN, .string nm, .int .i64 t, .int .u64 bits, .int .i64 n, .slice M mn mc] 38)).alloc (.cells #[.string wCompact] 9)) (.slice (some ⟨(w.alloc (.cells #[.int .i64 1, .int .i64 4, .int .i64 mkd, .string mnn, .int .i64 me, .int .i64 mf, .int .i64 ms, .slice A pn ac, .int .i64 qk, .string qn, .int .i64 qa, .int .i64 qb, .int .i64 qw, .int .i64 qN, .string nm, .int .i64 t, .int .u64 bits, .int .i64 n, .slice M mn mc] 38)).heap.size, 0, none⟩) 1 1) [wCompact] := RowsS.of (B := w.heap.size) (OwnV.built (w.alloc (.cells #[.int .i64 1, .int .i64 4, .int .i64 mkd, .string mnn, .int .i64 me, .int .i64 mf, .int .i64 ms, .slice A pn ac, .int .i64 qk, .string qn, .int .i64 qa, .int .i64 qb, .int .i64 qw, .int .i64 qN, .string nm, .int .i64 t, .int .u64 bits, .int .i64 n, .slice M mn mc] 38)) [.string wCompact] (by simp) (by simp))
    simp only [World.size_alloc] at hO
    have HO := hide hO
    have HB2 := hide hb2
    clear hO hb2
    go_enter Tryz.func30, Tryz.ntmps30
    go_wp2_with fail
    go_ret
    exact ⟨_, rfl, by rw [HR.out]; exact HO.out, HB2.out⟩
  rw [if_neg o4] at hR
  have k4 : (ok == 4) = false := beq_eq_false_iff_ne.2 o4
  have k4' : decide (ok = 4) = false := decide_eq_false o4
  by_cases o5 : ok = 5
  · subst o5
    rw [if_pos rfl] at hR
    have HR := hide hR
    clear hR
    have hb := bA (b0 w) (.cells #[.int .i64 1, .int .i64 5, .int .i64 mkd, .string mnn, .int .i64 me, .int .i64 mf, .int .i64 ms, .slice A pn ac, .int .i64 qk, .string qn, .int .i64 qa, .int .i64 qb, .int .i64 qw, .int .i64 qN, .string nm, .int .i64 t, .int .u64 bits, .int .i64 n, .slice M mn mc] 38)
    have HB := hide hb
    go_enter Tryz.func30, Tryz.ntmps30
    go_wp2_with fail
    refine (con_ask qk qn qa qb qw qN HI.out.2.2.2.2.1 HI.out.2.2.2.2.2.1 HI.out.2.2.2.2.2.2.1 _ (HL.out _ HB.out)).mono ?_
    rintro e' w5 ⟨v5, rfl, hr5, hb5⟩
    have hbb := hide (bB HB.out hb5)
    have HR5 := hide hr5
    clear hb5 hr5
    go_wp2_with fail
    go_ret
    exact ⟨_, rfl, by rw [HR.out]; exact HR5.out, hbb.out⟩
  rw [if_neg o5] at hR
  have k5 : (ok == 5) = false := beq_eq_false_iff_ne.2 o5
  have k5' : decide (ok = 5) = false := decide_eq_false o5
  by_cases o6 : ok = 6
  · subst o6
    rw [if_pos rfl] at hR
    have HR := hide hR
    clear hR
    obtain ⟨bn, hbn⟩ : ∃ bn : Nat, bits = (bn : Int) := ⟨bits.toNat, by have := HBI.out.1; omega⟩
    subst hbn
    have hbn2 : bn < 18446744073709551616 := by have := HBI.out.2; omega
    rw [Int.toNat_natCast] at HR
    obtain ⟨H9, hH9⟩ : ∃ H9, H9 = hexB bn := ⟨_, rfl⟩
    have cH := fun W (hb : Below w.heap.size w W) => con_hex bn hbn2 W (HDB.out W hb)
    rw [← hH9] at cH HR
    clear hH9 HBI
    have fb := na w #[.int .i64 1, .int .i64 6, .int .i64 mkd, .string mnn, .int .i64 me, .int .i64 mf, .int .i64 ms, .slice A pn ac, .int .i64 qk, .string qn, .int .i64 qa, .int .i64 qb, .int .i64 qw, .int .i64 qN, .string nm, .int .i64 t, .int .u64 (bn : Int), .int .i64 n, .slice M mn mc] 38
    have hb1 := bA (b0 w) (.cells #[.int .i64 1, .int .i64 6, .int .i64 mkd, .string mnn, .int .i64 me, .int .i64 mf, .int .i64 ms, .slice A pn ac, .int .i64 qk, .string qn, .int .i64 qa, .int .i64 qb, .int .i64 qw, .int .i64 qN, .string nm, .int .i64 t, .int .u64 (bn : Int), .int .i64 n, .slice M mn mc] 38)
    go_enter Tryz.func30, Tryz.ntmps30
    go_wp2_with fail
    generalize w.alloc (.cells #[.int .i64 1, .int .i64 6, .int .i64 mkd, .string mnn, .int .i64 me, .int .i64 mf, .int .i64 ms, .slice A pn ac, .int .i64 qk, .string qn, .int .i64 qa, .int .i64 qb, .int .i64 qw, .int .i64 qN, .string nm, .int .i64 t, .int .u64 (bn : Int), .int .i64 n, .slice M mn mc] 38) = w1 at *
    have HB := hide hb1
    have HL1 := hide (HL.out _ hb1)
    have cH1 := fun W (hb : Below w1.heap.size w1 W) => cH W (bB HB.out hb)
    clear hb1 cH
    refine Abs.wp_region_tail (Abs.cls0 _) [4, 5, 6, 7, 8, 0, 1, 2, 3, 9, 10, 11, 12, 13, 14] 15 (by kernel_rfl) (by kernel_rfl) (Below.refl _ _).drew ?_
    (refine Abs.step_pure rfl rfl (fun K hK => ?_); go_simp; (try go_bits); (first | refine hK _ _ ?_ | (simp only [↓IntWalk.iteOmega]; go_simp; (try go_bits); refine hK _ _ ?_)); clear hK K)
    (refine Abs.step_pure rfl rfl (fun K hK => ?_); go_simp; (try go_bits); (first | refine hK _ _ ?_ | (simp only [↓IntWalk.iteOmega]; go_simp; (try go_bits); refine hK _ _ ?_)); clear hK K)
    (refine Abs.step_load (v := ?_) rfl rfl (by kernel_rfl) rfl (fun w0 hI => ?_) (fun K hK => ?_); rotate_left; (· have z0 := (rcell (kp hI (fb))).1; go_simp; rfl); (simp only [Act.put, List.setIfInBounds_toArray, List.set_cons_zero, List.set_cons_succ]; refine hK _ _ ?_; clear hK K))
    (refine Abs.step_new (f := fun g => .slice (some ⟨g, 0, none⟩) 1 1) (obj := .cells #[.int .i64 t] 2) rfl rfl rfl rfl (fun w0 => ?_) (fun K hK g_i hv_i hu_i => ?_); (· go_simp; try rfl); (simp only [Act.put, List.setIfInBounds_toArray, List.set_cons_zero, List.set_cons_succ]; refine hK _ _ ?_; clear hK K))
    (refine Abs.step_call (f := ?_) (args := ?_) rfl rfl rfl rfl (NumsR [t]) (fun _ => Cl_NumsR _) (fun w0 => ?_) (fun w0 hI hF => ?_) (fun K hK v w0 hv => ?_); rotate_left 2; (· go_simp; (constructor <;> rfl)); (· exact num_call [t] rfl (by simp) (one_in HI.out.2.2.2.2.2.2.2) HL1.out hI ((hF 7 (by kernel_rfl)).2 rfl)); (obtain ⟨A9, rfl, -⟩ := hv; clear w0; simp only [Act.put, List.setIfInBounds_toArray, List.set_cons_zero, List.set_cons_succ]; refine hK _ _ ?_; clear hK K))
    (refine Abs.step_pure rfl rfl (fun K hK => ?_); go_simp; (try go_bits); (first | refine hK _ _ ?_ | (simp only [↓IntWalk.iteOmega]; go_simp; (try go_bits); refine hK _ _ ?_)); clear hK K)
    (refine Abs.step_pure rfl rfl (fun K hK => ?_); go_simp; (try go_bits); (first | refine hK _ _ ?_ | (simp only [↓IntWalk.iteOmega]; go_simp; (try go_bits); refine hK _ _ ?_)); clear hK K)
    (refine Abs.step_load (v := ?_) rfl rfl (by kernel_rfl) rfl (fun w0 hI => ?_) (fun K hK => ?_); rotate_left; (· have z0 := (rcell (kp hI (fb))).1; go_simp; rfl); (simp only [Act.put, List.setIfInBounds_toArray, List.set_cons_zero, List.set_cons_succ]; refine hK _ _ ?_; clear hK K))
    (refine Abs.step_new (f := fun g => .slice (some ⟨g, 0, none⟩) 2 2) (obj := .cells #[.string wRead, .string nm] 9) rfl rfl rfl rfl (fun w0 => ?_) (fun K hK g_s hv_s hu_s => ?_); (· go_simp; try rfl); (simp only [Act.put, List.setIfInBounds_toArray, List.set_cons_zero, List.set_cons_succ]; refine hK _ _ ?_; clear hK K))
    (refine step_growV rfl rfl rfl rfl _ _ rfl [.string wRead, .string nm] (strV [itoaB t]) g_s _ 2 1 _ rfl rfl rfl rfl (by simp [strV]) (by simp [strV]) (fun w0 hI hF => ⟨(hF 3 (by kernel_rfl)).2 rfl, ((hF 8 (by kernel_rfl)).1.2 rfl).inV.2⟩) (fun K hK v9 w0 hv9 => ?_); clear hv9 w0; (simp only [Act.put, List.setIfInBounds_toArray, List.set_cons_zero, List.set_cons_succ]; refine hK _ _ ?_; clear hK K))
    (refine Abs.step_pure rfl rfl (fun K hK => ?_); go_simp; (try go_bits); (first | refine hK _ _ ?_ | (simp only [↓IntWalk.iteOmega]; go_simp; (try go_bits); refine hK _ _ ?_)); clear hK K)
    (refine Abs.step_pure rfl rfl (fun K hK => ?_); go_simp; (try go_bits); (first | refine hK _ _ ?_ | (simp only [↓IntWalk.iteOmega]; go_simp; (try go_bits); refine hK _ _ ?_)); clear hK K)
    (refine Abs.step_load (v := ?_) rfl rfl (by kernel_rfl) rfl (fun w0 hI => ?_) (fun K hK => ?_); rotate_left; (· have z0 := (rcell (kp hI (fb))).1; go_simp; rfl); (simp only [Act.put, List.setIfInBounds_toArray, List.set_cons_zero, List.set_cons_succ]; refine hK _ _ ?_; clear hK K))
    (refine Abs.step_call_val (f := ?_) (args := ?_) (v := ?_) rfl rfl rfl rfl (fun w0 => ?_) (fun w0 hI => ?_) (fun K hK => ?_); rotate_left 3; (· go_simp; (constructor <;> rfl)); (· exact cH1 _ hI); (simp only [Act.put, List.setIfInBounds_toArray, List.set_cons_zero, List.set_cons_succ]; refine hK _ _ ?_; clear hK K))
    (refine Abs.step_new (f := fun g => .slice (some ⟨g, 0, none⟩) 1 1) (obj := .cells #[.string H9] 9) rfl rfl rfl rfl (fun w0 => ?_) (fun K hK g_h hv_h hu_h => ?_); (· go_simp; try rfl); (simp only [Act.put, List.setIfInBounds_toArray, List.set_cons_zero, List.set_cons_succ]; refine hK _ _ ?_; clear hK K))
    intro w5 hI hF hx1 hx2
    have q5 := (hF 9).1.2 rfl
    have q6 := (hF 14).2 rfl
    clear hx1 hx2 hF
    simp only [Abs.T_setF, Abs.T_addA, Abs.T_push, Abs.T_start, List.drop_succ_cons, List.drop_zero]
    have HO5 := hide q5
    have HI5 := hide (InV.at [.string H9] q6)
    have hs5 : w1.heap.size ≤ w5.heap.size := hI.size
    have HB5 := hide (bB HB.out hI)
    have hw1 : w.heap.size ≤ w1.heap.size := HB.out.size
    clear q5 q6 hI hv_s hu_s hv_i hu_i hv_h hu_h
    go_wp2_with (refine wpList_pushV rfl _ _ _ rfl 16 Tryz.underlying45 str_info rfl (by decide) w1.heap.size _ _ [.string H9] _ _ rfl rfl HO5.out HI5.out (by simp [Value.oneCell']) (by simp [strV]) hs5 ?_; intro v6 w6 hO6 hlow6 hsz6)
    go_ret
    refine ⟨_, rfl, ?_, HB5.out.trans ((hlow6 _ (Below.refl _ _)).mono hw1)⟩
    rw [HR.out]
    exact RowsS.of (ss := [wRead, nm, itoaB t, H9]) hO6
  rw [if_neg o6] at hR
  have k6 : (ok == 6) = false := beq_eq_false_iff_ne.2 o6
  have k6' : decide (ok = 6) = false := decide_eq_false o6
  have HR := hide hR
  have hb := bA (b0 w) (.cells #[.int .i64 1, .int .i64 ok, .int .i64 mkd, .string mnn, .int .i64 me, .int .i64 mf, .int .i64 ms, .slice A pn ac, .int .i64 qk, .string qn, .int .i64 qa, .int .i64 qb, .int .i64 qw, .int .i64 qN, .string nm, .int .i64 t, .int .u64 bits, .int .i64 n, .slice M mn mc] 38)
  go_enter Tryz.func30, Tryz.ntmps30
  go_wp2_with fail
  go_ret
  exact ⟨_, rfl, by rw [HR.out]; exact RowsS.nil _, hb⟩
end Go.Proofs.YtbiedfkmmcaplaaGreatDoor
