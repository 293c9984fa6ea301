/- The console at this program: the document's reading of words is the code's (plain). Numbers as words: the document's reading of a word and the code's are the same (plain). The document's answer for the console at this program: a word's number. The document's answer for the console at this program: 64 bits of a word. The document's answer for the console at this program: the words of what is asked. The document's answer for the console at this program: a line's words. The console at this program: the document's words of a line are the code's (plain). The document's answer for the console at this program: words' numbers. -/
import Derived.Test.YtlnonecibpjcoaaGreatDoorRe
import Derived.Lib.ItoaNum
import Derived.Lib.ParseIntB
import Derived.Test.YtlnonecibpjcoaaGreatDoorRd
import Derived.Test.YtlnonecibpjcoaaGreatDoorRc
import Derived.Lib.IndexBytes
import Derived.Test.YtlnonecibpjcoaaGreatDoorRa
set_option linter.unusedSimpArgs false
set_option linter.unnecessarySimpa false
set_option linter.unusedVariables false
set_option linter.unusedSectionVars false
namespace Go.Proofs.YtlnonecibpjcoaaGreatDoor
open Go.RowKit

/-- numbers, two by two -/
def pairs : List Int → List (Int × Int)
  | x :: y :: l => (x, y) :: pairs l
  | _ => []
def askK (h : ByteArray) : Nat := if h = wCount then 1 else if h = wLeast then 2 else if h = wMost then 3 else if h = wSum then 4 else if h = wMean then 5 else if h = wAt then 6 else if h = wScan then 7 else 0
def whatK (h : ByteArray) : Nat := if h = wCount then 1 else if h = wLeast then 2 else if h = wMost then 3 else if h = wSum then 4 else if h = wMean then 5 else 0
/-- of a name and numbers -/
def rNamed (h nm : ByteArray) (xs : List Int) : Option Cm :=
  if 0 < askK h then
    if askK h = 6 then (match xs with | [a] => some { ok := 5, qk := 6, qn := nm, qa := a } | _ => none)
    else (match xs with | [a, b] => some { ok := 5, qk := (askK h : Int), qn := nm, qa := a, qb := b } | _ => none)
  else if h = wCreate then (match xs with | [a, b] => some { ok := 1, mkd := 1, mn := nm, me := a, ms := b } | _ => none)
  else if h = wDrop then (match xs with | [] => some { ok := 1, mkd := 2, mn := nm } | _ => none)
  else if h = wAppend then (if 2 ≤ xs.length ∧ xs.length ≤ 40 ∧ xs.length % 2 = 0 then some { ok := 1, mkd := 3, mn := nm, pts := pairs xs } else none)
  else if h = wRetain then (match xs with | [a] => some { ok := 1, mkd := 4, mn := nm, mf := a } | _ => none)
  else none
def rRead (nm : ByteArray) : List ByteArray → Option Cm
  | [a, b] => match numW a, (if b.size = 16 then hexW b.data.toList 0 else none) with
    | some t, some n => some { ok := 6, nm := nm, t := t, bits := (n : Int) }
    | _, _ => none
  | _ => none
def rBuckets (nm : ByteArray) : List ByteArray → Option Cm
  | [x, a, b, c] => match pInts [a, b, c] with
    | some [u, v, n] => if 0 < whatK x then some { ok := 5, qk := 8, qn := nm, qa := u, qb := v, qw := (whatK x : Int), qN := n } else none
    | _ => none
  | _ => none
def rCmd : List ByteArray → Option Cm
  | [] => none
  | h :: l =>
    if h = wSync then (if l = [] then some { ok := 2 } else none)
    else if h = wFlush then (if l = [] then some { ok := 3 } else none)
    else if h = wCompact then (if l = [] then some { ok := 4 } else none)
    else if h = wPower then (match pInts l with | some [n] => some { kind := 2, n := n } | _ => none)
    else if h = wCrash then (match pInts l with | some xs => if xs.length ≤ 300 then some { kind := 3, masks := xs } else none | none => none)
    else match l with
      | [] => none
      | nm :: r => if nm.size ≤ 40 then
          (if h = wRead then rRead nm r else if h = wBuckets then rBuckets nm r else match pInts r with | some xs => rNamed h nm xs | none => none)
        else none

theorem pInts_len : ∀ {l : List ByteArray} {xs : List Int}, pInts l = some xs → xs.length = l.length
  | [], xs, h => by simp only [pInts, Option.some.injEq] at h; subst h; rfl
  | s :: l, xs, h => by
    simp only [pInts] at h
    split at h
    · split at h
      · rename_i ys hy
        injection h with h
        subst h
        simp [pInts_len hy]
      · cases h
    · cases h
theorem pts_ints : ∀ (l : List ByteArray), pPts l = if l.length % 2 = 0 then (pInts l).map pairs else none
  | [] => rfl
  | [_] => rfl
  | s :: t :: l => by
    have ih := pts_ints l
    have hm : (s :: t :: l).length % 2 = l.length % 2 := by simp only [List.length_cons]; omega
    rw [hm]
    simp only [pPts, pInts]
    cases numW s with
    | none => simp
    | some x =>
      cases numW t with
      | none => simp
      | some y =>
        rw [ih]
        by_cases hl : l.length % 2 = 0
        · rw [if_pos hl, if_pos hl]
          cases pInts l with
          | none => rfl
          | some ys => rfl
        · rw [if_neg hl, if_neg hl]
theorem pairs_len : ∀ (xs : List Int), (pairs xs).length = xs.length / 2
  | [] => rfl
  | [_] => by simp [pairs]
  | _ :: _ :: l => by simp only [pairs, List.length_cons, pairs_len l]; omega

theorem drop_is (l : List ByteArray) : (match pDrop l with | none => none | some (c, l') => if l' = [] then some c else none) = (match l with | [] => none | nm :: r => if nm.size ≤ 40 then (match pInts r with | some xs => (match xs with | [] => some ({ ok := 1, mkd := 2, mn := nm } : Cm) | _ => none) | none => none) else none) := by
  cases l with
  | nil => rfl
  | cons nm r =>
    simp only [pDrop, pName]
    by_cases hn : nm.size ≤ 40
    · rw [if_pos hn, if_pos hn]
      simp only
      cases r with
      | nil => rfl
      | cons s r =>
        rw [if_neg (by simp)]
        cases hp : pInts (s :: r) with
        | none => first | rfl | simp
        | some xs =>
          have := pInts_len hp
          cases xs with
          | nil => simp at this
          | cons => rfl
    · rw [if_neg hn, if_neg hn]
theorem two_is (f : ByteArray → Int → Int → Cm) (l : List ByteArray) :
    (match (match pName l with | none => none | some (s, l1) => match pNum l1 with | none => none | some (x, l2) => match pNum l2 with | none => none | some (y, l3) => some (f s x y, l3)) with | none => none | some (c, l') => if l' = [] then some c else none) =
    (match l with | [] => none | nm :: r => if nm.size ≤ 40 then (match pInts r with | some xs => (match xs with | [a, b] => some (f nm a b) | _ => none) | none => none) else none) := by
  cases l with
  | nil => rfl
  | cons nm r =>
    simp only [pName]
    by_cases hn : nm.size ≤ 40
    · rw [if_pos hn, if_pos hn]
      simp only
      match r with
      | [] => rfl
      | [a] => cases ha : numW a <;> simp [pNum, pInts, ha]
      | [a, b] => cases ha : numW a <;> cases hb : numW b <;> simp [pNum, pInts, ha, hb]
      | a :: b :: c :: r =>
        have e1 : (match pInts (a :: b :: c :: r) with | some xs => (match xs with | [a, b] => some (f nm a b) | _ => none) | none => none) = none := by
          cases hp : pInts (a :: b :: c :: r) with
          | none => rfl
          | some xs =>
            have := pInts_len hp
            match xs, this with
            | _ :: _ :: _ :: _, _ => rfl
        rw [e1]
        cases ha : numW a <;> cases hb : numW b <;> simp [pNum, ha, hb]
    · rw [if_neg hn, if_neg hn]
theorem one_is (f : ByteArray → Int → Cm) (l : List ByteArray) :
    (match (match pName l with | none => none | some (s, l1) => match pNum l1 with | none => none | some (x, l2) => some (f s x, l2)) with | none => none | some (c, l') => if l' = [] then some c else none) =
    (match l with | [] => none | nm :: r => if nm.size ≤ 40 then (match pInts r with | some xs => (match xs with | [a] => some (f nm a) | _ => none) | none => none) else none) := by
  cases l with
  | nil => rfl
  | cons nm r =>
    simp only [pName]
    by_cases hn : nm.size ≤ 40
    · rw [if_pos hn, if_pos hn]
      simp only
      match r with
      | [] => rfl
      | [a] =>
        simp only [pNum, pInts]
        cases numW a <;> first | rfl | simp
      | a :: b :: r =>
        simp only [pNum]
        cases hp : pInts (a :: b :: r) with
        | none => cases numW a <;> first | rfl | simp
        | some xs =>
          have := pInts_len hp
          match xs, this with
          | _ :: _ :: _, _ => cases numW a <;> first | rfl | simp
    · rw [if_neg hn, if_neg hn]
theorem append_is (l : List ByteArray) : (match pAppend l with | none => none | some (c, l') => if l' = [] then some c else none) = (match l with | [] => none | nm :: r => if nm.size ≤ 40 then (match pInts r with | some xs => (if 2 ≤ xs.length ∧ xs.length ≤ 40 ∧ xs.length % 2 = 0 then some ({ ok := 1, mkd := 3, mn := nm, pts := pairs xs } : Cm) else none) | none => none) else none) := by
  cases l with
  | nil => rfl
  | cons nm r =>
    simp only [pAppend, pName]
    by_cases hn : nm.size ≤ 40
    · rw [if_pos hn, if_pos hn]
      simp only [pts_ints]
      cases hp : pInts r with
      | none =>
        by_cases h2 : r.length % 2 = 0
        · rw [if_pos h2]; rfl
        · rw [if_neg h2]
      | some xs =>
        have hl := pInts_len hp
        by_cases h2 : r.length % 2 = 0
        · rw [if_pos h2]
          simp only [Option.map_some, pairs_len]
          by_cases hb : 2 ≤ xs.length ∧ xs.length ≤ 40 ∧ xs.length % 2 = 0
          · rw [if_pos hb, if_pos ⟨by omega, by omega⟩]; simp
          · rw [if_neg hb, if_neg (by omega)]
        · rw [if_neg h2]
          simp only
          rw [if_neg (by omega)]
    · rw [if_neg hn, if_neg hn]
theorem power_is (l : List ByteArray) : (match pPower l with | none => none | some (c, l') => if l' = [] then some c else none) = (match pInts l with | some [n] => some ({ kind := 2, n := n } : Cm) | _ => none) := by
  match l with
  | [] => rfl
  | [a] =>
    simp only [pPower, pNum, pInts]
    cases numW a <;> first | rfl | simp
  | a :: b :: r =>
    simp only [pPower, pNum]
    cases hp : pInts (a :: b :: r) with
    | none => cases numW a <;> first | rfl | simp
    | some xs =>
      have := pInts_len hp
      match xs, this with
      | _ :: _ :: _, _ => cases numW a <;> first | rfl | simp
theorem crash_is (l : List ByteArray) : (match pCrash l with | none => none | some (c, l') => if l' = [] then some c else none) = (match pInts l with | some xs => if xs.length ≤ 300 then some ({ kind := 3, masks := xs } : Cm) else none | none => none) := by
  simp only [pCrash]
  cases pInts l with
  | none => rfl
  | some xs =>
    by_cases h : xs.length ≤ 300
    · simp [h]
    · simp [h]
theorem read_is (l : List ByteArray) : (match pReading l with | none => none | some (c, l') => if l' = [] then some c else none) = (match l with | [] => none | nm :: r => if nm.size ≤ 40 then rRead nm r else none) := by
  cases l with
  | nil => rfl
  | cons nm r =>
    simp only [pReading, pName]
    by_cases hn : nm.size ≤ 40
    · rw [if_pos hn, if_pos hn]
      simp only
      match r with
      | [] => rfl
      | [a] =>
        simp only [pNum, rRead]
        cases numW a <;> first | rfl | simp
      | [a, b] =>
        simp only [pNum, rRead, pBits]
        cases numW a with
        | none => first | rfl | simp
        | some x =>
          simp only
          by_cases h16 : b.size = 16
          · rw [if_pos h16, if_pos h16]
            cases hexW b.data.toList 0 <;> first | rfl | simp
          · rw [if_neg h16, if_neg h16]
      | a :: b :: c :: r =>
        simp only [pNum, rRead, pBits]
        cases numW a with
        | none => first | rfl | simp
        | some x =>
          simp only
          by_cases h16 : b.size = 16
          · rw [if_pos h16]
            cases hexW b.data.toList 0 <;> first | rfl | simp
          · rw [if_neg h16]
    · rw [if_neg hn, if_neg hn]
theorem idx_what (x : ByteArray) : idxFrom whatR x 0 = (whatK x : Int) - 1 := by
  simp only [idxFrom, whatR, whatK]
  by_cases h1 : x = wCount
  · subst h1; decide
  · by_cases h2 : x = wLeast
    · subst h2; decide
    · by_cases h3 : x = wMost
      · subst h3; decide
      · by_cases h4 : x = wSum
        · subst h4; decide
        · by_cases h5 : x = wMean
          · subst h5; decide
          · simp [h1, h2, h3, h4, h5]
theorem buckets_is (l : List ByteArray) : (match pBuckets l with | none => none | some (c, l') => if l' = [] then some c else none) = (match l with | [] => none | nm :: r => if nm.size ≤ 40 then rBuckets nm r else none) := by
  cases l with
  | nil => rfl
  | cons nm r =>
    simp only [pBuckets, pName, idx_what]
    by_cases hn : nm.size ≤ 40
    · rw [if_pos hn, if_pos hn]
      simp only
      match r with
      | [] => rfl
      | [x] => simp only [pNext, pNum, rBuckets]; split <;> simp_all
      | [x, a] => cases ha : numW a <;> simp [pNext, pNum, rBuckets, ha]
      | [x, a, b] => cases ha : numW a <;> cases hb : numW b <;> simp [pNext, pNum, rBuckets, ha, hb]
      | [x, a, b, c] =>
        by_cases hx : 0 < whatK x
        · have hx2 : 0 ≤ (whatK x : Int) - 1 := by omega
          have hx3 : (whatK x : Int) - 1 + 1 = whatK x := by omega
          simp only [pNext, rBuckets, if_pos hx2, if_pos hx, hx3]
          cases ha : numW a <;> cases hb : numW b <;> cases hc : numW c <;> simp [pNum, pInts, ha, hb, hc]
        · have hx2 : ¬ 0 ≤ (whatK x : Int) - 1 := by omega
          simp only [pNext, rBuckets, if_neg hx2, if_neg hx]
          cases ha : numW a <;> cases hb : numW b <;> cases hc : numW c <;> simp [pInts, ha, hb, hc]
      | x :: a :: b :: c :: d :: r =>
        by_cases hx : 0 < whatK x
        · have hx2 : 0 ≤ (whatK x : Int) - 1 := by omega
          simp only [pNext, rBuckets, if_pos hx2]
          cases ha : numW a <;> cases hb : numW b <;> cases hc : numW c <;> simp [pNum, ha, hb, hc]
        · have hx2 : ¬ 0 ≤ (whatK x : Int) - 1 := by omega
          simp only [pNext, rBuckets, if_neg hx2]
    · rw [if_neg hn, if_neg hn]

theorem at_is (l : List ByteArray) : (match pAt l with | none => none | some (c, l') => if l' = [] then some c else none) = (match l with | [] => none | nm :: r => if nm.size ≤ 40 then (match pInts r with | some xs => (match xs with | [a] => some ({ ok := 5, qk := 6, qn := nm, qa := a } : Cm) | _ => none) | none => none) else none) := one_is (fun s x => { ok := 5, qk := 6, qn := s, qa := x }) l
theorem retain_is (l : List ByteArray) : (match pRetain l with | none => none | some (c, l') => if l' = [] then some c else none) = (match l with | [] => none | nm :: r => if nm.size ≤ 40 then (match pInts r with | some xs => (match xs with | [a] => some ({ ok := 1, mkd := 4, mn := nm, mf := a } : Cm) | _ => none) | none => none) else none) := one_is (fun s x => { ok := 1, mkd := 4, mn := s, mf := x }) l
theorem create_is (l : List ByteArray) : (match pCreate l with | none => none | some (c, l') => if l' = [] then some c else none) = (match l with | [] => none | nm :: r => if nm.size ≤ 40 then (match pInts r with | some xs => (match xs with | [a, b] => some ({ ok := 1, mkd := 1, mn := nm, me := a, ms := b } : Cm) | _ => none) | none => none) else none) := two_is (fun s x y => { ok := 1, mkd := 1, mn := s, me := x, ms := y }) l
theorem span_is (k : Int) (l : List ByteArray) : (match pSpan k l with | none => none | some (c, l') => if l' = [] then some c else none) = (match l with | [] => none | nm :: r => if nm.size ≤ 40 then (match pInts r with | some xs => (match xs with | [a, b] => some ({ ok := 5, qk := k, qn := nm, qa := a, qb := b } : Cm) | _ => none) | none => none) else none) := two_is (fun s x y => { ok := 5, qk := k, qn := s, qa := x, qb := y }) l

theorem rCmd_is (ws : List ByteArray) : rCmd ws = pWords ws := by
  cases ws with
  | nil => rfl
  | cons h l =>
    simp only [rCmd, pWords]
    by_cases h1 : h = wSync
    · subst h1
      rw [show headOf wSync = some (.one 2) by decide]
      simp only [if_true, pHead]
    rw [if_neg h1]
    by_cases h2 : h = wFlush
    · subst h2
      rw [show headOf wFlush = some (.one 3) by decide]
      simp only [if_true, pHead]
    rw [if_neg h2]
    by_cases h3 : h = wCompact
    · subst h3
      rw [show headOf wCompact = some (.one 4) by decide]
      simp only [if_true, pHead]
    rw [if_neg h3]
    by_cases h4 : h = wPower
    · subst h4
      rw [show headOf wPower = some (.fn 65) by decide]
      exact (power_is l).symm
    rw [if_neg h4]
    by_cases h5 : h = wCrash
    · subst h5
      rw [show headOf wCrash = some (.fn 66) by decide]
      exact (crash_is l).symm
    rw [if_neg h5]
    by_cases h6 : h = wRead
    · subst h6
      rw [show headOf wRead = some (.fn 62) by decide]
      refine Eq.trans ?_ (read_is l).symm
      cases l <;> rfl
    by_cases h7 : h = wBuckets
    · subst h7
      rw [show headOf wBuckets = some (.fn 64) by decide]
      refine Eq.trans ?_ (buckets_is l).symm
      cases l <;> rfl
    simp only [if_neg h6, if_neg h7]
    have key : ∀ (hd : Option Head) (f : ByteArray → List Int → Option Cm), headOf h = hd → (∀ nm xs, rNamed h nm xs = f nm xs) →
        (match hd with | none => none | some hh => match pHead hh l with | none => none | some (c, l') => if l' = [] then some c else none) = (match l with | [] => none | nm :: r => if nm.size ≤ 40 then (match pInts r with | some xs => f nm xs | none => none) else none) →
        (match l with | [] => none | nm :: r => if nm.size ≤ 40 then (match pInts r with | some xs => rNamed h nm xs | none => none) else none) = (match headOf h with | none => none | some hh => match pHead hh l with | none => none | some (c, l') => if l' = [] then some c else none) := by
      intro hd f e1 e2 e3
      rw [e1, e3]
      simp only [e2]
    by_cases h8 : h = wCreate
    · subst h8; exact key (some (.fn 58)) _ (by decide) (fun nm xs => rfl) (create_is l)
    by_cases h9 : h = wDrop
    · subst h9; exact key (some (.fn 59)) _ (by decide) (fun nm xs => rfl) (drop_is l)
    by_cases h10 : h = wAppend
    · subst h10; exact key (some (.fn 60)) _ (by decide) (fun nm xs => rfl) (append_is l)
    by_cases h11 : h = wRetain
    · subst h11; exact key (some (.fn 61)) _ (by decide) (fun nm xs => rfl) (retain_is l)
    by_cases h12 : h = wAt
    · subst h12; exact key (some (.fn 63)) _ (by decide) (fun nm xs => rfl) (at_is l)
    by_cases h13 : h = wCount
    · subst h13; exact key (some (.span 1)) _ (by decide) (fun nm xs => rfl) (span_is 1 l)
    by_cases h14 : h = wLeast
    · subst h14; exact key (some (.span 2)) _ (by decide) (fun nm xs => rfl) (span_is 2 l)
    by_cases h15 : h = wMost
    · subst h15; exact key (some (.span 3)) _ (by decide) (fun nm xs => rfl) (span_is 3 l)
    by_cases h16 : h = wSum
    · subst h16; exact key (some (.span 4)) _ (by decide) (fun nm xs => rfl) (span_is 4 l)
    by_cases h17 : h = wMean
    · subst h17; exact key (some (.span 5)) _ (by decide) (fun nm xs => rfl) (span_is 5 l)
    by_cases h18 : h = wScan
    · subst h18; exact key (some (.span 7)) _ (by decide) (fun nm xs => rfl) (span_is 7 l)
    refine key none (fun _ _ => none) ?_ (fun nm xs => ?_) ?_
    · simp [headOf, headL, heads, h1, h2, h3, h4, h5, h6, h7, h8, h9, h10, h11, h12, h13, h14, h15, h16, h17, h18]
    · simp [rNamed, askK, h8, h9, h10, h11, h12, h13, h14, h15, h16, h17, h18]
    · cases l with
      | nil => rfl
      | cons nm r =>
        simp only
        split
        · cases pInts r <;> rfl
        · rfl
end Go.Proofs.YtlnonecibpjcoaaGreatDoor

namespace Go.Proofs.RNP
open Go.Lib

def accN : List UInt8 → Nat → Option Nat
  | [], n => some n
  | b :: r, n => if 48 ≤ b.toNat ∧ b.toNat ≤ 57 then accN r (10 * n + (b.toNat - 48)) else none
theorem accN_app : ∀ (l r : List UInt8) (n : Nat), accN (l ++ r) n = (accN l n).bind (accN r)
  | [], r, n => rfl
  | b :: l, r, n => by
    simp only [List.cons_append, accN]
    by_cases h : 48 ≤ b.toNat ∧ b.toNat ≤ 57
    · rw [if_pos h, if_pos h, accN_app l r]
    · rw [if_neg h, if_neg h]; rfl
theorem dig_toNat (k : Nat) (h : k < 10) : (UInt8.ofNat (48 + k)).toNat = 48 + k := by
  simp
  omega
theorem accN_one (k n : Nat) (h : k < 10) : accN [UInt8.ofNat (48 + k)] n = some (10 * n + k) := by
  simp only [accN, dig_toNat k h]
  rw [if_pos (by omega)]
  congr 1
  omega
theorem accN_dec (u : Nat) : accN (decDigits u) 0 = some u := by
  induction u using Nat.strongRecOn with
  | _ u ih =>
    rw [decDigits]
    by_cases h : u < 10
    · rw [dif_pos h, accN_one u 0 h]; simp
    · rw [dif_neg h, accN_app, ih (u / 10) (by omega)]
      simp only [Option.bind_some]
      rw [accN_one _ _ (by omega)]
      congr 1
      omega
theorem accN_ge : ∀ (l : List UInt8) (n u : Nat), accN l n = some u → n ≤ u
  | [], n, u, h => by simp only [accN, Option.some.injEq] at h; omega
  | b :: l, n, u, h => by
    simp only [accN] at h
    split at h
    · have := accN_ge l _ u h; omega
    · cases h
theorem dec_ne (u : Nat) : decDigits u ≠ [] := by
  rw [decDigits]
  split <;> simp
/-- the first digit is no 0, but for 0 itself -/
theorem dec_head (u : Nat) (h : 1 ≤ u) : (decDigits u).head? ≠ some 48 := by
  induction u using Nat.strongRecOn with
  | _ u ih =>
    rw [decDigits]
    by_cases hu : u < 10
    · rw [dif_pos hu]
      simp only [List.head?_cons, ne_eq, Option.some.injEq]
      intro e
      have := congrArg UInt8.toNat e
      rw [dig_toNat u hu] at this
      simp at this
      omega
    · rw [dif_neg hu, List.head?_append]
      have h1 := ih (u / 10) (by omega) (by omega)
      cases hd : (decDigits (u / 10)).head? with
      | none => exact absurd (List.head?_eq_none_iff.1 hd) (dec_ne _)
      | some b => rw [hd] at h1; simpa using h1
theorem of_accN : ∀ (n : Nat) (l : List UInt8) (u : Nat), l.length = n → l ≠ [] → (l.head? ≠ some 48 ∨ l.length = 1) → accN l 0 = some u → l = decDigits u := by
  intro n
  induction n with
  | zero => intro l u hl hne; exact absurd (List.length_eq_zero_iff.1 hl) hne
  | succ n ih =>
    intro l u hl hne hh h
    obtain ⟨l', d, rfl⟩ : ∃ l' d, l = l' ++ [d] := ⟨l.dropLast, l.getLast hne, (List.dropLast_concat_getLast hne).symm⟩
    rw [accN_app] at h
    cases hm : accN l' 0 with
    | none => rw [hm] at h; cases h
    | some m =>
      rw [hm] at h
      simp only [Option.bind_some, accN] at h
      by_cases hd : 48 ≤ d.toNat ∧ d.toNat ≤ 57
      · rw [if_pos hd] at h
        simp only [Option.some.injEq] at h
        have hdd : d = UInt8.ofNat (48 + (d.toNat - 48)) := by
          apply UInt8.toNat.inj
          rw [dig_toNat _ (by omega)]
          omega
        by_cases he : l' = []
        · subst he
          simp only [accN, Option.some.injEq] at hm
          subst hm
          rw [decDigits, dif_pos (by omega), ← h]
          simp only [List.nil_append]
          rw [show 48 + (10 * 0 + (d.toNat - 48)) = 48 + (d.toNat - 48) by omega, ← hdd]
        · have hl2 : l'.length = n := by simp at hl; exact hl
          have hpos : 0 < l'.length := List.length_pos_iff.2 he
          have hh2 : l'.head? ≠ some 48 := by
            rcases hh with h1 | h1
            · rw [List.head?_append] at h1
              cases hx : l'.head? with
              | none => exact absurd (List.head?_eq_none_iff.1 hx) he
              | some b => rw [hx] at h1; simpa using h1
            · simp at h1; exact absurd h1 he
          have e := ih l' m hl2 he (.inl hh2) hm
          have hm1 : 1 ≤ m := by
            rcases Nat.eq_zero_or_pos m with h0 | h0
            · subst h0
              rw [e] at hh2
              rw [decDigits_one (by decide)] at hh2
              exact absurd rfl hh2
            · exact h0
          rw [decDigits, dif_neg (by omega), ← h]
          rw [show (10 * m + (d.toNat - 48)) / 10 = m by omega, show (10 * m + (d.toNat - 48)) % 10 = d.toNat - 48 by omega, ← e, ← hdd]
      · rw [if_neg hd] at h; cases h
theorem parseM (M : Nat) (hM : M ≤ 18446744073709551615) : ∀ (l : List UInt8) (n u : Nat), accN l n = some u → u ≤ M → parseUintM M n l = .ok u
  | [], n, u, h, _ => by simp only [accN, Option.some.injEq] at h; subst h; rfl
  | b :: l, n, u, h, hu => by
    simp only [accN] at h
    split at h
    · rename_i hb
      have h1 := accN_ge l _ u h
      rw [parseUintM, if_pos hb, if_neg (by omega), if_neg (by omega), show n * 10 + (b.toNat - 48) = 10 * n + (b.toNat - 48) by omega]
      exact parseM M hM l _ u h hu
    · cases h
theorem dec_len (u : Nat) : ∀ k, u < 10 ^ k → 1 ≤ k → (decDigits u).length ≤ k := by
  induction u using Nat.strongRecOn with
  | _ u ih =>
    intro k hk h1
    rw [decDigits]
    by_cases hu : u < 10
    · rw [dif_pos hu]; simpa using h1
    · rw [dif_neg hu]
      obtain ⟨j, rfl⟩ : ∃ j, k = j + 1 := ⟨k - 1, by omega⟩
      have hj : 1 ≤ j := by
        rcases Nat.eq_zero_or_pos j with h0 | h0
        · subst h0; simp at hk; omega
        · exact h0
      rw [Nat.pow_succ] at hk
      have := ih (u / 10) (by omega) j (by omega) hj
      simp
      exact this

def rAcc (neg : Bool) : Option Nat → Option Int
  | none => none
  | some n => if neg then (if 9223372036854775808 < n then none else some (-(n : Int))) else (if 9223372036854775807 < n then none else some (n : Int))
/-- the document's number of a word without its sign -/
def rMagL (neg : Bool) (t : List UInt8) : Option Int :=
  if t = [] ∨ 19 < t.length ∨ (t.head? = some 48 ∧ (1 < t.length ∨ neg = true)) then none else rAcc neg (accN t 0)
def rNumL (l : List UInt8) : Option Int := if l.head? = some 45 then rMagL true l.tail else rMagL false l

theorem rMag_dec (neg : Bool) (u : Nat) (h : neg = true → 1 ≤ u) (hu : u ≤ 9223372036854775808) : rMagL neg (decDigits u) = rAcc neg (some u) := by
  unfold rMagL
  rw [if_neg, accN_dec]
  rintro (h1 | h1 | ⟨h1, h2⟩)
  · exact dec_ne u h1
  · have := dec_len u 19 (by omega) (by decide); omega
  · rcases Nat.eq_zero_or_pos u with h0 | h0
    · subst h0
      rcases h2 with h2 | h2
      · rw [decDigits_one (by decide)] at h2; simp at h2
      · have := h h2; omega
    · exact dec_head u h0 h1
theorem dec_no_sign (u : Nat) : (decDigits u).head? ≠ some 45 := by
  have h := accN_dec u
  cases hd : decDigits u with
  | nil => simp
  | cons b l =>
    rw [hd] at h
    simp only [accN] at h
    split at h
    · rename_i hb
      simp only [List.head?_cons, ne_eq, Option.some.injEq]
      rintro rfl
      simp at hb
    · cases h
theorem rNum_itoa (v : Int) (h0 : -9223372036854775808 ≤ v) (h1 : v ≤ 9223372036854775807) : rNumL (itoa v) = some v := by
  unfold rNumL itoa
  by_cases hv : v < 0
  · rw [if_pos hv]
    simp only [List.head?_cons, if_true, List.tail_cons]
    rw [rMag_dec true _ (fun _ => by omega) (by omega)]
    simp only [rAcc, if_true]
    rw [if_neg (by omega)]
    congr 1
    omega
  · rw [if_neg hv, if_neg (dec_no_sign _), rMag_dec false _ (fun h => by cases h) (by omega)]
    simp only [rAcc, Bool.false_eq_true, if_false]
    rw [if_neg (by omega)]
    congr 1
    omega
theorem of_rMag {neg : Bool} {t : List UInt8} {v : Int} (h : rMagL neg t = some v) : ∃ u, t = decDigits u ∧ rAcc neg (some u) = some v ∧ (neg = true → 1 ≤ u) := by
  unfold rMagL at h
  split at h
  · cases h
  · rename_i hb
    simp only [not_or, not_and] at hb
    obtain ⟨h1, h2, h3⟩ := hb
    cases ha : accN t 0 with
    | none => rw [ha] at h; cases h
    | some u =>
      rw [ha] at h
      have hl : t.length ≠ 0 := fun e => h1 (List.length_eq_zero_iff.1 e)
      have e : t = decDigits u := of_accN t.length t u rfl h1 (by
        by_cases hh : t.head? = some 48
        · have := h3 hh
          exact .inr (by omega)
        · exact .inl hh) ha
      refine ⟨u, e, h, fun hn => ?_⟩
      rcases Nat.eq_zero_or_pos u with h0 | h0
      · subst h0
        exfalso
        rw [decDigits_one (by decide)] at e
        exact (h3 (by rw [e]; rfl)).2 hn
      · exact h0
theorem itoa_of_rNum {l : List UInt8} {v : Int} (h : rNumL l = some v) : l = itoa v ∧ -9223372036854775808 ≤ v ∧ v ≤ 9223372036854775807 := by
  unfold rNumL at h
  split at h
  · rename_i hh
    obtain ⟨u, e, h2, h3⟩ := of_rMag h
    have h3 := h3 rfl
    simp only [rAcc, if_true] at h2
    split at h2
    · cases h2
    · injection h2 with h2
      subst h2
      refine ⟨?_, by omega, by omega⟩
      cases l with
      | nil => cases hh
      | cons b r =>
        simp only [List.head?_cons, Option.some.injEq] at hh
        simp only [List.tail_cons] at e
        subst hh e
        unfold itoa
        rw [if_pos (by omega)]
        simp
  · obtain ⟨u, e, h2, _⟩ := of_rMag h
    simp only [rAcc, Bool.false_eq_true, if_false] at h2
    split at h2
    · cases h2
    · injection h2 with h2
      subst h2
      refine ⟨?_, by omega, by omega⟩
      unfold itoa
      rw [if_neg (by omega), e]
      simp
theorem parse_itoa (v : Int) (h0 : -9223372036854775808 ≤ v) (h1 : v ≤ 9223372036854775807) : parseIntB 64 (itoa v) = .ok v := by
  unfold itoa
  by_cases hv : v < 0
  · rw [if_pos hv]
    unfold parseIntB
    have e : parseUintB 64 (decDigits v.natAbs) = .ok v.natAbs := by
      unfold parseUintB
      rw [if_neg (dec_ne _)]
      exact parseM _ (by decide) _ _ _ (accN_dec _) (by simp; omega)
    simp only [show (45 : UInt8).toNat = 45 from rfl, or_true, if_true, e, not_true, false_and, if_false]
    rw [if_neg (by simp; omega)]
    congr 1
    omega
  · rw [if_neg hv]
    have e : parseUintB 64 (decDigits v.toNat) = .ok v.toNat := by
      unfold parseUintB
      rw [if_neg (dec_ne _)]
      exact parseM _ (by decide) _ _ _ (accN_dec _) (by simp; omega)
    cases hd : decDigits v.toNat with
    | nil => exact absurd hd (dec_ne _)
    | cons b r =>
      have hb : 48 ≤ b.toNat ∧ b.toNat ≤ 57 := by
        have h := accN_dec v.toNat
        rw [hd] at h
        simp only [accN] at h
        split at h
        · assumption
        · cases h
      rw [hd] at e
      unfold parseIntB
      simp only
      rw [if_neg (by omega), e]
      simp only
      rw [if_neg (by simp; omega), if_neg (by simp; omega), if_neg (by omega)]
      congr 1
      omega
/-- the code's number of a word: it is read, and written again it is the word -/
theorem num_same (l : List UInt8) : (match parseIntB 64 l with | .ok v => if itoa v = l then some v else none | _ => none) = rNumL l := by
  have hin : ∀ v, parseIntB 64 l = .ok v → -9223372036854775808 ≤ v ∧ v ≤ 9223372036854775807 := by
    intro v h
    unfold parseIntB at h
    cases l with
    | nil => cases h
    | cons c r =>
      simp only at h
      split at h
      · cases h
      · cases h
      · split at h
        · cases h
        · split at h
          · cases h
          · rename_i hb1 hb2
            injection h with h
            simp at hb1 hb2
            by_cases hc : c.toNat = 45
            · rw [if_pos hc] at h
              have := hb2 hc
              omega
            · rw [if_neg hc] at h
              have := hb1 hc
              omega
  cases hr : rNumL l with
  | some v =>
    obtain ⟨rfl, h0, h1⟩ := itoa_of_rNum hr
    rw [parse_itoa v h0 h1]
    simp
  | none =>
    cases hp : parseIntB 64 l with
    | ok v =>
      simp only
      obtain ⟨h0, h1⟩ := hin v hp
      by_cases he : itoa v = l
      · rw [← he, rNum_itoa v h0 h1] at hr
        cases hr
      · rw [if_neg he]
    | _ => rfl
end Go.Proofs.RNP

namespace Go.Proofs.YtlnonecibpjcoaaGreatDoor
open Go.RowKit Go.Proofs.RNP
attribute [local go_sem] Oper.semAt_some

def rMag (neg : Bool) (t : ByteArray) : Option Int :=
  if h : 0 < t.size then
    if 19 < t.size ∨ ((t[0]'h).toNat = 48 ∧ (1 < t.size ∨ neg = true)) then none else rAcc neg (accN t.data.toList 0)
  else none
def rNum (s : ByteArray) : Option Int := if h : 0 < s.size then (if (s[0]'h).toNat = 45 then rMag true (s.extract 1 s.size) else rMag false s) else none
def numR (r : Option Int) : Value := match r with | some v => .tuple #[.int .i64 v, .bool true] | none => .tuple #[.int .i64 0, .bool false]

theorem neg_wrap (n : Nat) (h : ¬9223372036854775808 < n) : wrap64 (IntKind.u64.wrap (-(n : Int))) = -(n : Int) := by
  simp only [IntKind.wrap, IntKind.bits, IntKind.signed, wrap64, Bool.false_and, Bool.false_eq_true, if_false]
  omega
theorem ext1_size (s : ByteArray) : (s.extract 1 s.size).size = s.size - 1 := by simp
theorem empty_of (t : ByteArray) (h : 0 < t.size) : t.toList.isEmpty = false := by
  cases hh : t.toList with
  | nil =>
    have : t.toList.length = t.size := by rw [ByteArray.toList_eq]; simp
    rw [hh] at this
    simp at this
    omega
  | cons a l => rfl

set_option maxRecDepth 100000 in
set_option maxHeartbeats 4000000 in
theorem ref_Number (s : ByteArray) (hs : s.size ≤ 1000000) (w : World) : Calls Tryz.prog 38 #[.string s] w fun e w' => e = .returned (numR (rNum s)) ∧ w' = w := by
  obtain ⟨R, hR⟩ : ∃ R, R = rNum s := ⟨_, rfl⟩
  have HR := hide hR
  rw [← hR]
  clear hR
  by_cases h0 : 0 < s.size
  · have e1 : decide ((0 : Int) < (s.size : Int)) = true := decide_eq_true (by omega)
    by_cases hm : (s[0]'h0).toNat = 45
    · have e2 : (((s[0]'h0).toNat : Int) == 45) = true := by simp [hm]
      have e3 : decide (((s[0]'h0).toNat : Int) = 45) = true := decide_eq_true (by omega)
      have hz := ext1_size s
      obtain ⟨T, hT⟩ : ∃ T, s.extract 1 s.size = T := ⟨_, rfl⟩
      have HR2 : Hid (R = rMag true T) := hide (by rw [HR.out, rNum, dif_pos h0, if_pos hm, hT])
      rw [hT] at hz
      have hz2 : s.size - 1 = T.size := by omega
      clear HR hz
      by_cases hT0 : 0 < T.size
      · have eT0 := empty_of T hT0
        have eT0b : decide ((0 : Int) < (T.size : Int)) = true := decide_eq_true (by omega)
        by_cases hT1 : 19 < T.size
        · have e4 : decide ((19 : Int) < (T.size : Int)) = true := decide_eq_true (by omega)
          go_enter Tryz.func38, Tryz.ntmps38
          go_wp2
          all_goals (go_ret2; exact ⟨by rw [HR2.out, rMag, dif_pos hT0, if_pos (Or.inl hT1)]; rfl, rfl⟩)
        · have e4 : decide ((19 : Int) < (T.size : Int)) = false := decide_eq_false (by omega)
          by_cases hz : (T[0]'hT0).toNat = 48
          · have e5 : (((T[0]'hT0).toNat : Int) == 48) = true := by simp [hz]
            have e6 : decide (((T[0]'hT0).toNat : Int) = 48) = true := decide_eq_true (by omega)
            go_enter Tryz.func38, Tryz.ntmps38
            go_wp2
            all_goals (go_ret2; exact ⟨by rw [HR2.out, rMag, dif_pos hT0, if_pos (Or.inr ⟨hz, Or.inr rfl⟩)]; rfl, rfl⟩)
          · have e5 : (((T[0]'hT0).toNat : Int) == 48) = false := by simp; omega
            have e6 : decide (((T[0]'hT0).toNat : Int) = 48) = false := decide_eq_false (by omega)
            have hbad : ¬(19 < T.size ∨ ((T[0]'hT0).toNat = 48 ∧ (1 < T.size ∨ true = true))) := by simp; omega
            have HR3 : Hid (R = rAcc true (accN T.data.toList 0)) := hide (by rw [HR2.out, rMag, dif_pos hT0, if_neg hbad])
            clear hbad
            go_enter Tryz.func38, Tryz.ntmps38
            go_wp2
            go_loopw [5, 6] (fun v5 v6 wr => ∃ k n : Nat, wr = w ∧ v5 = .int .u64 (n : Int) ∧ v6 = .int .i64 (k : Int) ∧ k ≤ T.size ∧ n < 10 ^ k ∧ Hid (accN (T.data.toList.drop k) n = accN T.data.toList 0)) (fun _ v6 _ => T.size - (intOf v6).toNat)
            case atStart => exact ⟨0, 0, rfl, rfl, rfl, by omega, by decide, hide rfl⟩
            case round =>
              obtain ⟨k, n, rfl, rfl, rfl, hk, hn, HH⟩ := hrel
              by_cases hp : k < T.size
              · have e7 : decide ((k : Int) < (T.size : Int)) = true := decide_eq_true (by omega)
                have hdrop := drop_at T k hp
                rw [hdrop] at HH
                by_cases hlo : (T[k]'hp).toNat < 48
                · have HN : Hid (accN T.data.toList 0 = none) := hide (by rw [← HH.out, accN, if_neg (by omega)])
                  have e8 : decide (((T[k]'hp).toNat : Int) < 48) = true := decide_eq_true (by omega)
                  clear HH hdrop
                  go_wp2
                  go_ret2
                  exact ⟨by rw [HR3.out, HN.out]; rfl, rfl⟩
                · have e8 : decide (((T[k]'hp).toNat : Int) < 48) = false := decide_eq_false (by omega)
                  by_cases hhi : 57 < (T[k]'hp).toNat
                  · have HN : Hid (accN T.data.toList 0 = none) := hide (by rw [← HH.out, accN, if_neg (by omega)])
                    have e9 : decide ((57 : Int) < ((T[k]'hp).toNat : Int)) = true := decide_eq_true (by omega)
                    clear HH hdrop
                    go_wp2
                    go_ret2
                    exact ⟨by rw [HR3.out, HN.out]; rfl, rfl⟩
                  · have e9 : decide ((57 : Int) < ((T[k]'hp).toNat : Int)) = false := decide_eq_false (by omega)
                    have HN : Hid (accN (T.data.toList.drop (k + 1)) (10 * n + ((T[k]'hp).toNat - 48)) = accN T.data.toList 0) := hide (by rw [← HH.out, accN, if_pos ⟨by omega, by omega⟩])
                    have hn2 : n < 1000000000000000000 := Nat.lt_of_lt_of_le hn (Nat.le_trans (Nat.pow_le_pow_right (by decide) (show k ≤ 18 by omega)) (by decide))
                    have hn3 : 10 * n + ((T[k]'hp).toNat - 48) < 10 ^ (k + 1) := by rw [Nat.pow_succ]; omega
                    clear HH hdrop
                    go_wp2
                    go_roundw
                    case rel => exact ⟨k + 1, 10 * n + ((T[k]'hp).toNat - 48), by trivial, by go_num, by go_num, by omega, hn3, HN⟩
                    case measure => simp [intOf]; omega
              · have e7 : decide ((k : Int) < (T.size : Int)) = false := decide_eq_false (by omega)
                have hn2 : n < 10000000000000000000 := Nat.lt_of_lt_of_le hn (Nat.le_trans (Nat.pow_le_pow_right (by decide) (show k ≤ 19 by omega)) (by decide))
                have HN : Hid (accN T.data.toList 0 = some n) := hide (by rw [← HH.out, List.drop_eq_nil_of_le (by simp; omega)]; rfl)
                clear HH
                by_cases hg : 9223372036854775808 < n
                · have e10 : decide ((9223372036854775808 : Int) < (n : Int)) = true := decide_eq_true (by omega)
                  go_wp2
                  go_ret2
                  exact ⟨by rw [HR3.out, HN.out]; simp only [rAcc, if_true]; rw [if_pos hg]; rfl, rfl⟩
                · have e10 : decide ((9223372036854775808 : Int) < (n : Int)) = false := decide_eq_false (by omega)
                  go_wp2
                  go_ret2
                  refine ⟨?_, rfl⟩
                  rw [HR3.out, HN.out]
                  simp only [rAcc, if_true]
                  rw [if_neg hg]
                  go_simp; simp only [numR]; rw [neg_wrap n hg]
      · have eT : T.toList = [] := by
          have h1 : T.toList.length = T.size := by rw [ByteArray.toList_eq]; simp
          exact List.eq_nil_of_length_eq_zero (by omega)
        go_enter Tryz.func38, Tryz.ntmps38
        go_wp2
        all_goals (go_ret2; exact ⟨by rw [HR2.out, rMag, dif_neg hT0]; rfl, rfl⟩)
    · have e2 : (((s[0]'h0).toNat : Int) == 45) = false := by simp; omega
      have e3 : decide (((s[0]'h0).toNat : Int) = 45) = false := decide_eq_false (by omega)
      have HR2 : Hid (R = rMag false s) := hide (by rw [HR.out, rNum, dif_pos h0, if_neg hm])
      clear HR
      by_cases hT0 : 0 < s.size
      · have eT0 := empty_of s hT0
        have eT0b : decide ((0 : Int) < (s.size : Int)) = true := decide_eq_true (by omega)
        by_cases hT1 : 19 < s.size
        · have e4 : decide ((19 : Int) < (s.size : Int)) = true := decide_eq_true (by omega)
          go_enter Tryz.func38, Tryz.ntmps38
          go_wp2
          all_goals (go_ret2; exact ⟨by rw [HR2.out, rMag, dif_pos hT0, if_pos (Or.inl hT1)]; rfl, rfl⟩)
        · have e4 : decide ((19 : Int) < (s.size : Int)) = false := decide_eq_false (by omega)
          by_cases hz : (s[0]'hT0).toNat = 48
          · have e5 : (((s[0]'hT0).toNat : Int) == 48) = true := by simp [hz]
            have e6 : decide (((s[0]'hT0).toNat : Int) = 48) = true := decide_eq_true (by omega)
            by_cases hl : 1 < s.size
            · have e7 : decide ((1 : Int) < (s.size : Int)) = true := decide_eq_true (by omega)
              go_enter Tryz.func38, Tryz.ntmps38
              go_wp2
              all_goals (go_ret2; exact ⟨by rw [HR2.out, rMag, dif_pos hT0, if_pos (Or.inr ⟨hz, Or.inl hl⟩)]; rfl, rfl⟩)
            · have e7 : decide ((1 : Int) < (s.size : Int)) = false := decide_eq_false (by omega)
              have hbad : ¬(19 < s.size ∨ ((s[0]'hT0).toNat = 48 ∧ (1 < s.size ∨ false = true))) := by simp; omega
              have HR3 : Hid (R = rAcc false (accN s.data.toList 0)) := hide (by rw [HR2.out, rMag, dif_pos hT0, if_neg hbad])
              clear hbad
              go_enter Tryz.func38, Tryz.ntmps38
              go_wp2
              go_loopw [5, 6] (fun v5 v6 wr => ∃ k n : Nat, wr = w ∧ v5 = .int .u64 (n : Int) ∧ v6 = .int .i64 (k : Int) ∧ k ≤ s.size ∧ n < 10 ^ k ∧ Hid (accN (s.data.toList.drop k) n = accN s.data.toList 0)) (fun _ v6 _ => s.size - (intOf v6).toNat)
              case atStart => exact ⟨0, 0, rfl, rfl, rfl, by omega, by decide, hide rfl⟩
              case round =>
                obtain ⟨k, n, rfl, rfl, rfl, hk, hn, HH⟩ := hrel
                by_cases hp : k < s.size
                · have e7 : decide ((k : Int) < (s.size : Int)) = true := decide_eq_true (by omega)
                  have hdrop := drop_at s k hp
                  rw [hdrop] at HH
                  by_cases hlo : (s[k]'hp).toNat < 48
                  · have HN : Hid (accN s.data.toList 0 = none) := hide (by rw [← HH.out, accN, if_neg (by omega)])
                    have e8 : decide (((s[k]'hp).toNat : Int) < 48) = true := decide_eq_true (by omega)
                    clear HH hdrop
                    go_wp2
                    go_ret2
                    exact ⟨by rw [HR3.out, HN.out]; rfl, rfl⟩
                  · have e8 : decide (((s[k]'hp).toNat : Int) < 48) = false := decide_eq_false (by omega)
                    by_cases hhi : 57 < (s[k]'hp).toNat
                    · have HN : Hid (accN s.data.toList 0 = none) := hide (by rw [← HH.out, accN, if_neg (by omega)])
                      have e9 : decide ((57 : Int) < ((s[k]'hp).toNat : Int)) = true := decide_eq_true (by omega)
                      clear HH hdrop
                      go_wp2
                      go_ret2
                      exact ⟨by rw [HR3.out, HN.out]; rfl, rfl⟩
                    · have e9 : decide ((57 : Int) < ((s[k]'hp).toNat : Int)) = false := decide_eq_false (by omega)
                      have HN : Hid (accN (s.data.toList.drop (k + 1)) (10 * n + ((s[k]'hp).toNat - 48)) = accN s.data.toList 0) := hide (by rw [← HH.out, accN, if_pos ⟨by omega, by omega⟩])
                      have hn2 : n < 1000000000000000000 := Nat.lt_of_lt_of_le hn (Nat.le_trans (Nat.pow_le_pow_right (by decide) (show k ≤ 18 by omega)) (by decide))
                      have hn3 : 10 * n + ((s[k]'hp).toNat - 48) < 10 ^ (k + 1) := by rw [Nat.pow_succ]; omega
                      clear HH hdrop
                      go_wp2
                      go_roundw
                      case rel => exact ⟨k + 1, 10 * n + ((s[k]'hp).toNat - 48), by trivial, by go_num, by go_num, by omega, hn3, HN⟩
                      case measure => simp [intOf]; omega
                · have e7 : decide ((k : Int) < (s.size : Int)) = false := decide_eq_false (by omega)
                  have hn2 : n < 10000000000000000000 := Nat.lt_of_lt_of_le hn (Nat.le_trans (Nat.pow_le_pow_right (by decide) (show k ≤ 19 by omega)) (by decide))
                  have HN : Hid (accN s.data.toList 0 = some n) := hide (by rw [← HH.out, List.drop_eq_nil_of_le (by simp; omega)]; rfl)
                  clear HH
                  by_cases hg : 9223372036854775807 < n
                  · have e10 : decide ((9223372036854775807 : Int) < (n : Int)) = true := decide_eq_true (by omega)
                    go_wp2
                    go_ret2
                    exact ⟨by rw [HR3.out, HN.out]; simp only [rAcc, Bool.false_eq_true, if_false]; rw [if_pos hg]; rfl, rfl⟩
                  · have e10 : decide ((9223372036854775807 : Int) < (n : Int)) = false := decide_eq_false (by omega)
                    go_wp2
                    go_ret2
                    refine ⟨?_, rfl⟩
                    rw [HR3.out, HN.out]
                    simp only [rAcc, Bool.false_eq_true, if_false]
                    rw [if_neg hg]
                    go_simp; simp only [numR]
          · have e5 : (((s[0]'hT0).toNat : Int) == 48) = false := by simp; omega
            have e6 : decide (((s[0]'hT0).toNat : Int) = 48) = false := decide_eq_false (by omega)
            have hbad : ¬(19 < s.size ∨ ((s[0]'hT0).toNat = 48 ∧ (1 < s.size ∨ false = true))) := by simp; omega
            have HR3 : Hid (R = rAcc false (accN s.data.toList 0)) := hide (by rw [HR2.out, rMag, dif_pos hT0, if_neg hbad])
            clear hbad
            go_enter Tryz.func38, Tryz.ntmps38
            go_wp2
            go_loopw [5, 6] (fun v5 v6 wr => ∃ k n : Nat, wr = w ∧ v5 = .int .u64 (n : Int) ∧ v6 = .int .i64 (k : Int) ∧ k ≤ s.size ∧ n < 10 ^ k ∧ Hid (accN (s.data.toList.drop k) n = accN s.data.toList 0)) (fun _ v6 _ => s.size - (intOf v6).toNat)
            case atStart => exact ⟨0, 0, rfl, rfl, rfl, by omega, by decide, hide rfl⟩
            case round =>
              obtain ⟨k, n, rfl, rfl, rfl, hk, hn, HH⟩ := hrel
              by_cases hp : k < s.size
              · have e7 : decide ((k : Int) < (s.size : Int)) = true := decide_eq_true (by omega)
                have hdrop := drop_at s k hp
                rw [hdrop] at HH
                by_cases hlo : (s[k]'hp).toNat < 48
                · have HN : Hid (accN s.data.toList 0 = none) := hide (by rw [← HH.out, accN, if_neg (by omega)])
                  have e8 : decide (((s[k]'hp).toNat : Int) < 48) = true := decide_eq_true (by omega)
                  clear HH hdrop
                  go_wp2
                  go_ret2
                  exact ⟨by rw [HR3.out, HN.out]; rfl, rfl⟩
                · have e8 : decide (((s[k]'hp).toNat : Int) < 48) = false := decide_eq_false (by omega)
                  by_cases hhi : 57 < (s[k]'hp).toNat
                  · have HN : Hid (accN s.data.toList 0 = none) := hide (by rw [← HH.out, accN, if_neg (by omega)])
                    have e9 : decide ((57 : Int) < ((s[k]'hp).toNat : Int)) = true := decide_eq_true (by omega)
                    clear HH hdrop
                    go_wp2
                    go_ret2
                    exact ⟨by rw [HR3.out, HN.out]; rfl, rfl⟩
                  · have e9 : decide ((57 : Int) < ((s[k]'hp).toNat : Int)) = false := decide_eq_false (by omega)
                    have HN : Hid (accN (s.data.toList.drop (k + 1)) (10 * n + ((s[k]'hp).toNat - 48)) = accN s.data.toList 0) := hide (by rw [← HH.out, accN, if_pos ⟨by omega, by omega⟩])
                    have hn2 : n < 1000000000000000000 := Nat.lt_of_lt_of_le hn (Nat.le_trans (Nat.pow_le_pow_right (by decide) (show k ≤ 18 by omega)) (by decide))
                    have hn3 : 10 * n + ((s[k]'hp).toNat - 48) < 10 ^ (k + 1) := by rw [Nat.pow_succ]; omega
                    clear HH hdrop
                    go_wp2
                    go_roundw
                    case rel => exact ⟨k + 1, 10 * n + ((s[k]'hp).toNat - 48), by trivial, by go_num, by go_num, by omega, hn3, HN⟩
                    case measure => simp [intOf]; omega
              · have e7 : decide ((k : Int) < (s.size : Int)) = false := decide_eq_false (by omega)
                have hn2 : n < 10000000000000000000 := Nat.lt_of_lt_of_le hn (Nat.le_trans (Nat.pow_le_pow_right (by decide) (show k ≤ 19 by omega)) (by decide))
                have HN : Hid (accN s.data.toList 0 = some n) := hide (by rw [← HH.out, List.drop_eq_nil_of_le (by simp; omega)]; rfl)
                clear HH
                by_cases hg : 9223372036854775807 < n
                · have e10 : decide ((9223372036854775807 : Int) < (n : Int)) = true := decide_eq_true (by omega)
                  go_wp2
                  go_ret2
                  exact ⟨by rw [HR3.out, HN.out]; simp only [rAcc, Bool.false_eq_true, if_false]; rw [if_pos hg]; rfl, rfl⟩
                · have e10 : decide ((9223372036854775807 : Int) < (n : Int)) = false := decide_eq_false (by omega)
                  go_wp2
                  go_ret2
                  refine ⟨?_, rfl⟩
                  rw [HR3.out, HN.out]
                  simp only [rAcc, Bool.false_eq_true, if_false]
                  rw [if_neg hg]
                  go_simp; simp only [numR]
      · have eT : s.toList = [] := by
          have h1 : s.toList.length = s.size := by rw [ByteArray.toList_eq]; simp
          exact List.eq_nil_of_length_eq_zero (by omega)
        go_enter Tryz.func38, Tryz.ntmps38
        go_wp2
        all_goals (go_ret2; exact ⟨by rw [HR2.out, rMag, dif_neg hT0]; rfl, rfl⟩)
  · have e1 : decide ((0 : Int) < (s.size : Int)) = false := decide_eq_false (by omega)
    have eT : s.toList = [] := by
      have h1 : s.toList.length = s.size := by rw [ByteArray.toList_eq]; simp
      exact List.eq_nil_of_length_eq_zero (by omega)
    go_enter Tryz.func38, Tryz.ntmps38
    go_wp2
    all_goals (go_ret2; exact ⟨by rw [HR.out, rNum, dif_neg h0]; rfl, rfl⟩)
theorem rMag_is (neg : Bool) (t : ByteArray) : rMag neg t = rMagL neg t.data.toList := by
  have hsz : t.data.toList.length = t.size := by simp
  unfold rMag rMagL
  by_cases h : 0 < t.size
  · rw [dif_pos h]
    have hne : t.data.toList ≠ [] := by intro e; rw [e] at hsz; simp at hsz; omega
    have hh : t.data.toList.head? = some (t[0]'h) := by
      have := drop_at t 0 h
      rw [List.drop_zero] at this
      rw [this]; rfl
    have e1 : (t.data.toList.head? = some 48) ↔ (t[0]'h).toNat = 48 := by
      rw [hh, Option.some.injEq]
      constructor
      · intro e; rw [e]; rfl
      · intro e; exact UInt8.toNat.inj e
    simp only [hne, false_or, hsz, e1]
  · rw [dif_neg h]
    have he : t.data.toList = [] := List.eq_nil_of_length_eq_zero (by omega)
    rw [if_pos (.inl he)]
theorem rNum_is (s : ByteArray) : rNum s = numW s := by
  have h2 : numW s = rNumL s.data.toList := by
    rw [← num_same]
    unfold numW
    cases Lib.parseIntB 64 s.data.toList with
    | ok v =>
      simp only
      have e : (itoaB v = s) ↔ (Lib.itoa v = s.data.toList) := by
        unfold itoaB
        constructor
        · intro e; rw [← e]
        · intro e; rw [e]
      by_cases h : itoaB v = s
      · rw [if_pos h, if_pos (e.1 h)]
      · rw [if_neg h, if_neg fun x => h (e.2 x)]
    | _ => rfl
  rw [h2]
  unfold rNum rNumL
  have hsz : s.data.toList.length = s.size := by simp
  by_cases h : 0 < s.size
  · rw [dif_pos h]
    have hd := drop_at s 0 h
    rw [List.drop_zero] at hd
    have e1 : (s.data.toList.head? = some 45) ↔ (s[0]'h).toNat = 45 := by
      rw [hd, List.head?_cons, Option.some.injEq]
      constructor
      · intro e; rw [e]; rfl
      · intro e; exact UInt8.toNat.inj e
    by_cases hm : (s[0]'h).toNat = 45
    · rw [if_pos hm, if_pos (e1.2 hm), rMag_is]
      congr 1
      simp [← List.drop_one]
      try exact List.take_of_length_le (by simp)
    · rw [if_neg hm, if_neg fun x => hm (e1.1 x), rMag_is]
  · rw [dif_neg h]
    have he : s.data.toList = [] := List.eq_nil_of_length_eq_zero (by omega)
    rw [he]
    rfl
end Go.Proofs.YtlnonecibpjcoaaGreatDoor

namespace Go.Proofs.YtlnonecibpjcoaaGreatDoor
open Go.RowKit
attribute [local go_sem] Oper.semAt_some

set_option maxRecDepth 100000 in
theorem ref_digit (b : UInt8) (w : World) : Calls Tryz.prog 72 #[.int .u8 (b.toNat : Int)] w fun e w' => e = .returned (.int .i64 (match hexD b with | some d => (d : Int) | none => -1)) ∧ w' = w := by
  have hlt := b.toNat_lt
  obtain ⟨R, hR⟩ : ∃ R : Int, R = (match hexD b with | some d => (d : Int) | none => -1) := ⟨_, rfl⟩
  rw [← hR]
  unfold hexD at hR
  obtain ⟨n, hn⟩ : ∃ n, n = b.toNat := ⟨_, rfl⟩
  rw [← hn] at hR hlt ⊢
  clear hn
  have HR := hide hR
  clear hR
  by_cases h1 : n < 48
  · have e1 : decide ((48 : Int) ≤ (n : Int)) = false := decide_eq_false (by omega)
    have e2 : decide ((97 : Int) ≤ (n : Int)) = false := decide_eq_false (by omega)
    go_enter Tryz.func72, Tryz.ntmps72
    go_wp2
    all_goals (go_ret; have hR := HR.out; rw [if_neg (by omega), if_neg (by omega)] at hR; subst hR; exact ⟨by first | rfl | go_num, rfl⟩)
  · have e1 : decide ((48 : Int) ≤ (n : Int)) = true := decide_eq_true (by omega)
    by_cases h2 : n ≤ 57
    · have e3 : decide ((n : Int) ≤ 57) = true := decide_eq_true (by omega)
      go_enter Tryz.func72, Tryz.ntmps72
      go_wp2
      all_goals (go_ret; have hR := HR.out; rw [if_pos (by omega)] at hR; subst hR; exact ⟨by first | rfl | go_num, rfl⟩)
    · have e3 : decide ((n : Int) ≤ 57) = false := decide_eq_false (by omega)
      by_cases h3 : 97 ≤ n
      · have e4 : decide ((97 : Int) ≤ (n : Int)) = true := decide_eq_true (by omega)
        by_cases h4 : n ≤ 102
        · have e5 : decide ((n : Int) ≤ 102) = true := decide_eq_true (by omega)
          go_enter Tryz.func72, Tryz.ntmps72
          go_wp2
          all_goals (go_ret; have hR := HR.out; rw [if_neg (by omega), if_pos (by omega)] at hR; subst hR; exact ⟨by first | rfl | go_num, rfl⟩)
        · have e5 : decide ((n : Int) ≤ 102) = false := decide_eq_false (by omega)
          go_enter Tryz.func72, Tryz.ntmps72
          go_wp2
          all_goals (go_ret; have hR := HR.out; rw [if_neg (by omega), if_neg (by omega)] at hR; subst hR; exact ⟨by first | rfl | go_num, rfl⟩)
      · have e4 : decide ((97 : Int) ≤ (n : Int)) = false := decide_eq_false (by omega)
        go_enter Tryz.func72, Tryz.ntmps72
        go_wp2
        all_goals (go_ret; have hR := HR.out; rw [if_neg (by omega), if_neg (by omega)] at hR; subst hR; exact ⟨by first | rfl | go_num, rfl⟩)

def numQ (r : Option Nat) : Value := match r with | some v => .tuple #[.int .u64 (v : Int), .bool true] | none => .tuple #[.int .u64 0, .bool false]
def rBits (s : ByteArray) : Option Nat := if s.size = 16 then hexW s.data.toList 0 else none
set_option maxRecDepth 100000 in
set_option maxHeartbeats 4000000 in
theorem ref_Bits (s : ByteArray) (hs : s.size ≤ 1000000) (w : World) : Calls Tryz.prog 39 #[.string s] w fun e w' => e = .returned (numQ (rBits s)) ∧ w' = w := by
  obtain ⟨R, hR⟩ : ∃ R, R = rBits s := ⟨_, rfl⟩
  have HR := hide hR
  rw [← hR]
  clear hR
  have cD := ref_digit
  by_cases h16 : s.size = 16
  · have e1 : ((s.size : Int) != 16) = false := by simp; omega
    have e2 : ((s.size : Int) == 16) = true := by simp; omega
    have e3 : decide ((s.size : Int) = 16) = true := decide_eq_true (by omega)
    have HR2 : Hid (R = hexW s.data.toList 0) := hide (by rw [HR.out, rBits, if_pos h16])
    clear HR
    go_enter Tryz.func39, Tryz.ntmps39
    go_wp2
    go_loopw [4, 5] (fun v4 v5 wr => ∃ k n : Nat, wr = w ∧ v4 = .int .u64 (n : Int) ∧ v5 = .int .i64 (k : Int) ∧ k ≤ 16 ∧ n < 16 ^ k ∧ Hid (hexW (s.data.toList.drop k) n = hexW s.data.toList 0)) (fun _ v5 _ => 16 - (intOf v5).toNat)
    case atStart => exact ⟨0, 0, rfl, rfl, rfl, by omega, by decide, hide rfl⟩
    case round =>
      obtain ⟨k, n, rfl, rfl, rfl, hk, hn, HH⟩ := hrel
      by_cases hp : k < 16
      · have e7 : decide ((k : Int) < 16) = true := decide_eq_true (by omega)
        have hps : k < s.size := by omega
        have hdrop := drop_at s k hps
        rw [hdrop] at HH
        have hn2 : n < 1152921504606846976 := Nat.lt_of_lt_of_le hn (Nat.le_trans (Nat.pow_le_pow_right (by decide) (show k ≤ 15 by omega)) (by decide))
        have c1 := cD (s[k]'hps)
        cases hd : hexD (s[k]'hps) with
        | none =>
          rw [hd] at c1
          simp only at c1
          have HN : Hid (hexW s.data.toList 0 = none) := hide (by rw [← HH.out]; simp [hexW, hd])
          clear HH hd hdrop
          go_wp2_with fail
          refine (c1 _).mono ?_
          rintro e w4 ⟨rfl, rfl⟩
          go_wp2
          go_ret2
          exact ⟨by rw [HR2.out, HN.out]; rfl, rfl⟩
        | some d =>
          rw [hd] at c1
          simp only at c1
          have hd16 := hexD_lt hd
          have e8 : decide ((d : Int) < 0) = false := decide_eq_false (by omega)
          have HN : Hid (hexW (s.data.toList.drop (k + 1)) (16 * n + d) = hexW s.data.toList 0) := hide (by rw [← HH.out]; simp [hexW, hd])
          have hn3 : 16 * n + d < 16 ^ (k + 1) := by rw [Nat.pow_succ]; omega
          clear HH hd hdrop
          go_wp2_with fail
          refine (c1 _).mono ?_
          rintro e w4 ⟨rfl, rfl⟩
          go_wp2
          go_roundw
          case rel => exact ⟨k + 1, 16 * n + d, by trivial, by go_num, by go_num, by omega, hn3, HN⟩
          case measure => simp [intOf]; omega
      · have e7 : decide ((k : Int) < 16) = false := decide_eq_false (by omega)
        have HN : Hid (hexW s.data.toList 0 = some n) := hide (by rw [← HH.out, List.drop_eq_nil_of_le (by simp; omega)]; rfl)
        clear HH
        go_wp2
        go_ret2
        exact ⟨by rw [HR2.out, HN.out]; rfl, rfl⟩
  · have e1 : ((s.size : Int) != 16) = true := by simp; omega
    have e2 : ((s.size : Int) == 16) = false := by simp; omega
    have e3 : decide ((s.size : Int) = 16) = false := decide_eq_false (by omega)
    go_enter Tryz.func39, Tryz.ntmps39
    go_wp2
    all_goals (go_ret2; exact ⟨by rw [HR.out, rBits, if_neg h16]; rfl, rfl⟩)
end Go.Proofs.YtlnonecibpjcoaaGreatDoor

namespace Go.Proofs.YtlnonecibpjcoaaGreatDoor
open Go.RowKit
attribute [local go_sem] Oper.semAt_some

def rWhatL : List ByteArray := [⟨#[]⟩, ⟨#[99, 111, 117, 110, 116]⟩, ⟨#[108, 101, 97, 115, 116]⟩, ⟨#[109, 111, 115, 116]⟩, ⟨#[115, 117, 109]⟩, ⟨#[109, 101, 97, 110]⟩, ⟨#[97, 116]⟩, ⟨#[115, 99, 97, 110]⟩, ⟨#[98, 117, 99, 107, 101, 116, 115]⟩]
def rWhatB (n : Nat) : ByteArray := rWhatL.getD n ⟨#[]⟩

set_option maxRecDepth 100000 in
set_option maxHeartbeats 4000000 in
theorem ref_What (n : Nat) (hn : n ≤ 8) (w : World) : Calls Tryz.prog 40 #[.int .i64 (n : Int)] w fun e w' => e = .returned (.string (rWhatB n)) ∧ Below w.heap.size w w' := by
  have hb := bA (b0 w) (.cells #[.string ⟨#[]⟩, .string ⟨#[99, 111, 117, 110, 116]⟩, .string ⟨#[108, 101, 97, 115, 116]⟩, .string ⟨#[109, 111, 115, 116]⟩, .string ⟨#[115, 117, 109]⟩, .string ⟨#[109, 101, 97, 110]⟩, .string ⟨#[97, 116]⟩, .string ⟨#[115, 99, 97, 110]⟩, .string ⟨#[98, 117, 99, 107, 101, 116, 115]⟩] 9)
  obtain rfl | rfl | rfl | rfl | rfl | rfl | rfl | rfl | rfl : n = 0 ∨ n = 1 ∨ n = 2 ∨ n = 3 ∨ n = 4 ∨ n = 5 ∨ n = 6 ∨ n = 7 ∨ n = 8 := by omega
  all_goals
    go_enter Tryz.func40, Tryz.ntmps40
    go_wp2
    go_ret
    exact ⟨rfl, hb⟩
end Go.Proofs.YtlnonecibpjcoaaGreatDoor

namespace Go.Proofs.YtlnonecibpjcoaaGreatDoor
open Go.RowKit
attribute [local go_sem] Oper.semAt_some

def rW : List UInt8 → ByteArray → List ByteArray → Option (List ByteArray)
  | [], word, out => if word.size = 0 then none else some (out ++ [word])
  | b :: r, word, out => if b.toNat < 32 ∨ 126 < b.toNat then none else if b.toNat = 32 then (if word.size = 0 then none else rW r ⟨#[]⟩ (out ++ [word])) else rW r (word ++ ⟨#[b]⟩) out
theorem ext_one (s : ByteArray) (k : Nat) (hk : k < s.size) : s.extract k (k + 1) = ⟨#[s[k]]⟩ := by
  apply ByteArray.ext
  apply Array.ext'
  have h := drop_at s k hk
  simp [h]
theorem word_empty {t : ByteArray} (h : t.size = 0) : t.toList = [] := by
  have h1 : t.toList.length = t.size := by rw [ByteArray.toList_eq]; simp
  exact List.eq_nil_of_length_eq_zero (by omega)
theorem inV_one (w : World) (x : ByteArray) : InV (w.alloc (.cells #[.string x] 9)) (some ⟨w.heap.size, 0, none⟩) (strV [x]) := by
  intro _
  refine ⟨_, rfl, by simp, fun j hj => ?_⟩
  obtain rfl : j = 0 := by simp [strV] at hj; omega
  have h := (rcell (na w #[.string x] 9)).1 0
  simpa [Addr.add, strV] using h
def wordsR (B : Nat) (w : World) (r : Option (List ByteArray)) (e : Ending) (w' : World) : Prop :=
  match r with
  | some ws => ∃ v, e = .returned (.tuple #[v, .bool true]) ∧ OwnV 9 B w' v (strV ws) ∧ Below w.heap.size w w'
  | none => e = .returned (.tuple #[.slice none 0 0, .bool false]) ∧ Below w.heap.size w w'

set_option maxRecDepth 100000 in
set_option maxHeartbeats 4000000 in
theorem ref_Words (s : ByteArray) (hs : s.size ≤ 1000000) (w : World) : Calls Tryz.prog 36 #[.string s] w (wordsR w.heap.size w (rW s.data.toList ⟨#[]⟩ [])) := by
  obtain ⟨R, hR⟩ : ∃ R, R = rW s.data.toList ⟨#[]⟩ [] := ⟨_, rfl⟩
  have HR := hide hR
  rw [← hR]
  clear hR
  go_enter Tryz.func36, Tryz.ntmps36
  go_wp2_with fail
  go_loopw [4, 5, 6] (fun v4 v5 v6 wr => ∃ (k : Nat) (word : ByteArray) (out : List ByteArray), v5 = .string word ∧ v6 = .int .i64 (k : Int) ∧ k ≤ s.size ∧ word.size ≤ k ∧ out.length ≤ k ∧ Hid (OwnV 9 w.heap.size wr v4 (strV out)) ∧ Below w.heap.size w wr ∧ Hid (rW (s.data.toList.drop k) word out = rW s.data.toList ⟨#[]⟩ [])) (fun _ _ v6 _ => s.size - (intOf v6).toNat)
  case atStart => exact ⟨0, ⟨#[]⟩, [], rfl, rfl, by omega, by decide, by simp, hide (OwnV.nil _ _), b0 w, hide rfl⟩
  case round =>
    obtain ⟨k, word, out, rfl, rfl, hk, hwd, hol, HO, hb, HH⟩ := hrel
    by_cases hp : k < s.size
    · have e7 : decide ((k : Int) < (s.size : Int)) = true := decide_eq_true (by omega)
      have hdrop := drop_at s k hp
      rw [hdrop] at HH
      by_cases hlo : (s[k]'hp).toNat < 32
      · have e8 : decide (((s[k]'hp).toNat : Int) < 32) = true := decide_eq_true (by omega)
        have HN : Hid (R = none) := hide (by rw [HR.out, ← HH.out, rW, if_pos (.inl hlo)])
        clear HH hdrop
        go_wp2
        go_ret2
        have hR := HN.out
        subst hR
        exact ⟨rfl, hb⟩
      · have e8 : decide (((s[k]'hp).toNat : Int) < 32) = false := decide_eq_false (by omega)
        by_cases hhi : 126 < (s[k]'hp).toNat
        · have e9 : decide ((126 : Int) < ((s[k]'hp).toNat : Int)) = true := decide_eq_true (by omega)
          have HN : Hid (R = none) := hide (by rw [HR.out, ← HH.out, rW, if_pos (.inr hhi)])
          clear HH hdrop
          go_wp2
          go_ret2
          have hR := HN.out
          subst hR
          exact ⟨rfl, hb⟩
        · have e9 : decide ((126 : Int) < ((s[k]'hp).toNat : Int)) = false := decide_eq_false (by omega)
          by_cases hbl : (s[k]'hp).toNat = 32
          · have e10 : (((s[k]'hp).toNat : Int) == 32) = true := by simp; omega
            have e11 : decide (((s[k]'hp).toNat : Int) = 32) = true := decide_eq_true (by omega)
            by_cases hw0 : word.size = 0
            · have eW := word_empty hw0
              have HN : Hid (R = none) := hide (by rw [HR.out, ← HH.out, rW, if_neg (by omega), if_pos hbl, if_pos hw0])
              clear HH hdrop
              go_wp2
              go_ret2
              have hR := HN.out
              subst hR
              exact ⟨rfl, hb⟩
            · have eW := empty_of word (by omega)
              have HN : Hid (rW (s.data.toList.drop (k + 1)) ⟨#[]⟩ (out ++ [word]) = rW s.data.toList ⟨#[]⟩ []) := hide (by rw [← HH.out, rW, if_neg (by omega), if_pos hbl, if_neg hw0])
              clear HH hdrop
              have HI := hide (inV_one wr word)
              have HO2 := hide (HO.out.lift (bA (b0 _) (.cells #[.string word] 9)))
              have hB : Below w.heap.size w (wr.alloc (.cells #[.string word] 9)) := bA hb _
              go_wp2_with (refine wpList_pushV rfl _ _ _ rfl 16 Tryz.underlying66 str_info rfl (by decide) w.heap.size _ (strV out) (strV [word]) (some ⟨wr.heap.size, 0, none⟩) 1 rfl rfl HO2.out HI.out (strV_one _) (by simp only [strV_len, List.length_cons, List.length_nil]; omega) hB.size ?_; intro v' w3 hO3 hlow hsz)
              go_roundw
              case rel => exact ⟨k + 1, ⟨#[]⟩, out ++ [word], rfl, by go_num, by omega, Nat.zero_le _, by simp; omega, hide (by simpa [strV] using hO3), hlow _ hB, HN⟩
              case measure => simp [intOf]; omega
          · have e10 : (((s[k]'hp).toNat : Int) == 32) = false := by simp; omega
            have e11 : decide (((s[k]'hp).toNat : Int) = 32) = false := decide_eq_false (by omega)
            have HN : Hid (rW (s.data.toList.drop (k + 1)) (word ++ ⟨#[s[k]'hp]⟩) out = rW s.data.toList ⟨#[]⟩ []) := hide (by rw [← HH.out, rW, if_neg (by omega), if_neg hbl])
            clear HH hdrop
            go_wp2
            have hsz1 : (word ++ ⟨#[s[k]'hp]⟩ : ByteArray).size ≤ k + 1 := by
              rw [ByteArray.size_append]
              have : (ByteArray.mk #[s[k]'hp]).size = 1 := rfl
              omega
            go_roundw
            case rel => exact ⟨k + 1, word ++ ⟨#[s[k]'hp]⟩, out, by rw [ext_one s k hp], by go_num, by omega, hsz1, by omega, HO, hb, HN⟩
            case measure => simp [intOf]; omega
    · have e7 : decide ((k : Int) < (s.size : Int)) = false := decide_eq_false (by omega)
      have HN : Hid (R = if word.size = 0 then none else some (out ++ [word])) := hide (by rw [HR.out, ← HH.out, List.drop_eq_nil_of_le (by simp; omega)]; rfl)
      clear HH
      by_cases hw0 : word.size = 0
      · have eW := word_empty hw0
        go_wp2
        go_ret2
        have hR := HN.out
        rw [if_pos hw0] at hR
        subst hR
        exact ⟨rfl, hb⟩
      · have eW := empty_of word (by omega)
        have HI := hide (inV_one wr word)
        have HO2 := hide (HO.out.lift (bA (b0 _) (.cells #[.string word] 9)))
        have hB : Below w.heap.size w (wr.alloc (.cells #[.string word] 9)) := bA hb _
        go_wp2_with (refine wpList_pushV rfl _ _ _ rfl 16 Tryz.underlying66 str_info rfl (by decide) w.heap.size _ (strV out) (strV [word]) (some ⟨wr.heap.size, 0, none⟩) 1 rfl rfl HO2.out HI.out (strV_one _) (by simp only [strV_len, List.length_cons, List.length_nil]; omega) hB.size ?_; intro v' w3 hO3 hlow hsz)
        go_ret2
        have hR := HN.out
        rw [if_neg hw0] at hR
        subst hR
        exact ⟨_, rfl, by simpa [strV] using hO3, hlow _ hB⟩
end Go.Proofs.YtlnonecibpjcoaaGreatDoor

namespace Go.Proofs.YtlnonecibpjcoaaGreatDoor
open Go.RowKit

def spl : List UInt8 → List UInt8 → List (List UInt8)
  | acc, [] => [acc]
  | acc, b :: r => if b = 32 then acc :: spl [] r else spl (acc ++ [b]) r
theorem spl_miss : ∀ (l acc : List UInt8), Lib.indexByte l 32 = -1 → spl acc l = [acc ++ l]
  | [], acc, _ => by simp [spl]
  | b :: r, acc, h => by
    have hb := Lib.indexByte_none h
    have h0 : b ≠ 32 := by have := hb 0; simpa using this
    have hr : Lib.indexByte r 32 = -1 := by
      rcases Int.lt_or_le (Lib.indexByte r 32) 0 with h1 | h1
      · have := Lib.indexByte_ge r 32; omega
      · obtain ⟨o, ho⟩ := Int.eq_ofNat_of_zero_le h1
        have := (Lib.indexByte_some ho).1
        exact absurd this (by have := hb (o + 1); simpa using this)
    rw [spl, if_neg h0, spl_miss r _ hr]
    simp
theorem spl_hit : ∀ (l acc : List UInt8) (i : Nat), Lib.indexByte l 32 = i → spl acc l = (acc ++ l.take i) :: spl [] (l.drop (i + 1))
  | [], acc, i, h => by have := (Lib.indexByte_some h).1; simp at this
  | b :: r, acc, i, h => by
    obtain ⟨h1, h2⟩ := Lib.indexByte_some h
    cases i with
    | zero =>
      have hb : b = 32 := by simpa using h1
      rw [spl, if_pos hb]
      simp
    | succ i =>
      have hb : b ≠ 32 := by have := h2 0 (by omega); simpa using this
      have hr : Lib.indexByte r 32 = i := by
        have g1 : r[i]? = some 32 := by simpa using h1
        rcases Int.lt_or_le (Lib.indexByte r 32) 0 with q | q
        · have := Lib.indexByte_ge r 32
          exact absurd g1 (Lib.indexByte_none (by omega) i)
        · obtain ⟨o, ho⟩ := Int.eq_ofNat_of_zero_le q
          obtain ⟨a1, a2⟩ := Lib.indexByte_some ho
          rcases Nat.lt_trichotomy o i with q1 | q1 | q1
          · exact absurd a1 (by have := h2 (o + 1) (by omega); simpa using this)
          · rw [ho, q1]
          · exact absurd g1 (a2 i q1)
      rw [spl, if_neg hb, spl_hit r _ i hr]
      simp
theorem split_spl : ∀ (n : Nat) (l : List UInt8), l.length ≤ n → Lib.splitK [32] 0 (Lib.count l [32]) l = spl [] l := by
  intro n
  induction n with
  | zero =>
    intro l h
    obtain rfl : l = [] := List.eq_nil_of_length_eq_zero (by omega)
    decide
  | succ n ih =>
    intro l h
    rcases Int.lt_or_le (Lib.indexByte l 32) 0 with q | q
    · have hm : Lib.indexByte l 32 = -1 := by have := Lib.indexByte_ge l 32; omega
      rw [Lib.count_miss (by rw [Lib.index_one, hm]), spl_miss l [] hm]
      rfl
    · obtain ⟨i, hi⟩ := Int.eq_ofNat_of_zero_le q
      have hx : Lib.index l [32] = (i : Int) := by rw [Lib.index_one, hi]
      have hlt : i < l.length := by
        have := (Lib.indexByte_some hi).1
        exact (List.getElem?_eq_some_iff.1 this).1
      rw [Lib.count_hit (by simp) hx, spl_hit l [] i hi, Nat.add_comm]
      unfold Lib.splitK
      rw [if_neg (by rw [hx]; simp), hx]
      simp only [List.length_cons, List.length_nil, Nat.zero_add, Int.toNat_natCast, Nat.add_zero, List.nil_append]
      rw [ih (l.drop (i + 1)) (by simp; omega)]
def toB (l : List UInt8) : ByteArray := ⟨l.toArray⟩
theorem toB_of (s : ByteArray) : toB s.data.toList = s := by unfold toB; simp
theorem words_is (s : ByteArray) : wordsOf s = (spl [] s.data.toList).map toB := by
  have h := Lib.splitB_data ⟨#[32]⟩ 0 (Lib.countB s ⟨#[32]⟩) s
  have h2 : Lib.splitK (ByteArray.mk #[32]).data.toList 0 (Lib.countB s ⟨#[32]⟩) s.data.toList = spl [] s.data.toList := split_spl _ _ (Nat.le_refl _)
  rw [h2] at h
  rw [← h, List.map_map]
  unfold wordsOf
  conv => lhs; rw [← List.map_id (Lib.splitB _ _ _ _)]
  apply List.map_congr_left
  intro x _
  exact (toB_of x).symm
theorem rW_is : ∀ (l : List UInt8) (word : ByteArray) (out : List ByteArray), rW l word out = if plainB l = true ∧ (∀ p ∈ spl word.data.toList l, p ≠ []) then some (out ++ (spl word.data.toList l).map toB) else none
  | [], word, out => by
    simp only [rW, spl, plainB, List.all_nil, true_and, List.mem_singleton, forall_eq, List.map_cons, List.map_nil, toB_of]
    have hz : word.data.toList.length = word.size := by simp
    by_cases h : word.size = 0
    · rw [if_pos h, if_neg]
      simp only [ne_eq, Classical.not_not]
      exact List.eq_nil_of_length_eq_zero (by omega)
    · rw [if_neg h, if_pos]
      intro e
      rw [e] at hz
      simp at hz
      omega
  | b :: r, word, out => by
    have hz : word.data.toList.length = word.size := by simp
    simp only [rW]
    by_cases hp : b.toNat < 32 ∨ 126 < b.toNat
    · rw [if_pos hp, if_neg]
      simp only [plainB, List.all_cons, Bool.and_eq_true, decide_eq_true_eq]
      omega
    · rw [if_neg hp]
      have hpl : plainB (b :: r) = plainB r := by
        simp only [plainB, List.all_cons]
        rw [decide_eq_true (by omega), decide_eq_true (by omega)]
        simp
      rw [hpl]
      by_cases hb : b.toNat = 32
      · have hb2 : b = 32 := UInt8.toNat.inj hb
        rw [if_pos hb, spl, if_pos hb2]
        by_cases h : word.size = 0
        · rw [if_pos h, if_neg]
          rintro ⟨_, h2⟩
          exact h2 word.data.toList (by simp) (List.eq_nil_of_length_eq_zero (by omega))
        · rw [if_neg h, rW_is r ⟨#[]⟩ (out ++ [word])]
          have hne : word.data.toList ≠ [] := by intro e; rw [e] at hz; simp at hz; omega
          have e1 : (ByteArray.mk #[]).data.toList = [] := rfl
          rw [e1]
          simp only [List.mem_cons, forall_eq_or_imp, List.map_cons, toB_of]
          by_cases hc : plainB r = true ∧ ∀ p ∈ spl [] r, p ≠ []
          · rw [if_pos hc, if_pos ⟨hc.1, hne, hc.2⟩]
            simp
          · rw [if_neg hc, if_neg fun x => hc ⟨x.1, x.2.2⟩]
      · have hb2 : b ≠ 32 := fun e => hb (by rw [e]; rfl)
        rw [if_neg hb, spl, if_neg hb2, rW_is r _ out]
        have e1 : (word ++ ⟨#[b]⟩ : ByteArray).data.toList = word.data.toList ++ [b] := by simp
        rw [e1]
/-- the document's command of a line -/
def rLine (s : ByteArray) : Option Cm := match rW s.data.toList ⟨#[]⟩ [] with | some ws => rCmd ws | none => none
theorem idx_empty : ∀ (l : List ByteArray) (k : Nat), 0 ≤ idxFrom l ⟨#[]⟩ k ↔ ∃ x ∈ l, x = ⟨#[]⟩
  | [], k => by simp [idxFrom]
  | s :: l, k => by
    simp only [idxFrom]
    by_cases h : (⟨#[]⟩ : ByteArray) = s
    · rw [if_pos h]
      constructor
      · intro _; exact ⟨s, by simp, h.symm⟩
      · intro _; omega
    · rw [if_neg h, idx_empty l (k + 1)]
      constructor
      · rintro ⟨x, hx, e⟩; exact ⟨x, by simp [hx], e⟩
      · rintro ⟨x, hx, e⟩
        rcases List.mem_cons.1 hx with rfl | hx
        · exact absurd e.symm h
        · exact ⟨x, hx, e⟩
theorem rLine_is (s : ByteArray) : rLine s = pLine s := by
  unfold rLine pLine
  rw [rW_is, words_is]
  have e1 : (ByteArray.mk #[]).data.toList = [] := rfl
  rw [e1]
  by_cases hp : plainB s.data.toList = true
  · rw [if_pos hp]
    by_cases hq : ∀ p ∈ spl [] s.data.toList, p ≠ []
    · rw [if_pos ⟨hp, hq⟩, if_neg]
      · simp only [List.nil_append]
        exact rCmd_is _
      · rw [idx_empty]
        rintro ⟨x, hx, rfl⟩
        obtain ⟨p, hp1, hp2⟩ := List.mem_map.1 hx
        refine hq p hp1 ?_
        have := congrArg (fun z : ByteArray => z.data.toList) hp2
        simpa [toB] using this
    · rw [if_neg fun x => hq x.2, if_pos]
      rw [idx_empty]
      have : ∃ p ∈ spl [] s.data.toList, p = [] := by
        apply Classical.byContradiction
        intro hn
        exact hq fun p hp e => hn ⟨p, hp, e⟩
      obtain ⟨p, hp1, rfl⟩ := this
      exact ⟨toB [], List.mem_map.2 ⟨[], hp1, rfl⟩, rfl⟩
  · rw [if_neg hp, if_neg fun x => hp x.1]
end Go.Proofs.YtlnonecibpjcoaaGreatDoor

namespace Go.Proofs.YtlnonecibpjcoaaGreatDoor
open Go.RowKit
attribute [local go_sem] Oper.semAt_some

theorem i64_info : (Tryz.prog.info? 2).map (fun i => (i.zero, i.size, i.bytes)) = some (some (.int .i64 0), 1, 8) := by kernel_rfl
def numsR (B : Nat) (w : World) (r : Option (List Int)) (e : Ending) (w' : World) : Prop :=
  match r with
  | some xs => ∃ v, e = .returned (.tuple #[v, .bool true]) ∧ OwnV 2 B w' v (intV xs) ∧ Below w.heap.size w w'
  | none => e = .returned (.tuple #[.slice none 0 0, .bool false]) ∧ Below w.heap.size w w'
theorem inV_int (w : World) (x : Int) : InV (w.alloc (.cells #[.int .i64 x] 2)) (some ⟨w.heap.size, 0, none⟩) (intV [x]) := by
  intro _
  refine ⟨_, rfl, by simp, fun j hj => ?_⟩
  obtain rfl : j = 0 := by simp [intV] at hj; omega
  have h := (rcell (na w #[.int .i64 x] 2)).1 0
  simpa [Addr.add, intV] using h
theorem intV_cell (l : List Int) : ∀ v ∈ intV l, v.oneCell' = true := by
  intro v hv
  obtain ⟨x, _, rfl⟩ := List.mem_map.1 hv
  rfl

set_option maxRecDepth 100000 in
set_option maxHeartbeats 4000000 in
theorem ref_numbers (A : Option Addr) (c : Nat) (ws : List ByteArray) (hl : ws.length ≤ 1000000) (hz : ∀ s ∈ ws, s.size ≤ 1000000) (w : World) (hr : InV w A (strV ws)) : Calls Tryz.prog 37 #[.slice A ws.length c] w (numsR w.heap.size w (pInts ws)) := by
  obtain ⟨R, hR⟩ : ∃ R, R = pInts ws := ⟨_, rfl⟩
  have HR := hide hR
  have HV := hide hr
  have HZ := hide hz
  rw [← hR]
  clear hR hr hz
  go_enter Tryz.func37, Tryz.ntmps37
  go_wp2_with fail
  go_loopw [4, 5] (fun v4 v5 wr => ∃ (k : Nat) (acc : List Int), v5 = .int .i64 (k : Int) ∧ k ≤ ws.length ∧ acc.length ≤ k ∧ Hid (OwnV 2 w.heap.size wr v4 (intV acc)) ∧ Below w.heap.size w wr ∧ Hid (pInts ws = (pInts (ws.drop k)).map (acc ++ ·))) (fun _ v5 _ => ws.length - (intOf v5).toNat)
  case atStart => exact ⟨0, [], rfl, by omega, by simp, hide (OwnV.nil _ _), b0 w, hide (by simp)⟩
  case round =>
    obtain ⟨k, acc, rfl, hk, ha, HO, hb, HH⟩ := hrel
    by_cases hp : k < ws.length
    · have e7 : decide ((k : Int) < (ws.length : Int)) = true := decide_eq_true (by omega)
      obtain ⟨ad, rfl, -, hc⟩ := (HV.out.below hb) (by rw [strV_len]; omega)
      have q1 := hc k (by rw [strV_len]; omega)
      have e1 : (strV ws)[k]'(by rw [strV_len]; omega) = .string ws[k] := by simp [strV]
      rw [e1] at q1
      have hdrop : ws.drop k = ws[k] :: ws.drop (k + 1) := List.drop_eq_getElem_cons hp
      have hsz := HZ.out ws[k] (List.getElem_mem hp)
      rw [hdrop] at HH
      obtain ⟨s, hs⟩ : ∃ s, s = ws[k] := ⟨_, rfl⟩
      rw [← hs] at q1 hsz HH
      clear hc e1 hs hdrop
      have cN := fun W => ref_Number s hsz W
      rw [rNum_is] at cN
      cases hn : numW s with
      | none =>
        rw [hn] at cN
        have HN : Hid (R = none) := hide (by rw [HR.out, HH.out, pInts, hn]; rfl)
        clear HH hn
        simp only [numR] at cN
        go_wp2_with fail
        refine (cN _).mono ?_
        rintro e w4 ⟨rfl, rfl⟩
        go_wp2
        go_ret2
        have hR := HN.out
        subst hR
        exact ⟨rfl, hb⟩
      | some x =>
        rw [hn] at cN
        have HN : Hid (pInts ws = (pInts (ws.drop (k + 1))).map ((acc ++ [x]) ++ ·)) := hide (by
          rw [HH.out, pInts, hn]
          simp only
          cases pInts (ws.drop (k + 1)) with
          | none => rfl
          | some ys => simp)
        clear HH hn
        simp only [numR] at cN
        have HI := hide (inV_int wr x)
        have HO2 := hide (HO.out.lift (bA (b0 _) (.cells #[.int .i64 x] 2)))
        have hB : Below w.heap.size w (wr.alloc (.cells #[.int .i64 x] 2)) := bA hb _
        go_wp2_with fail
        refine (cN _).mono ?_
        rintro e w4 ⟨rfl, rfl⟩
        go_wp2_with (refine wpList_pushV rfl _ _ _ rfl 8 Tryz.underlying73 i64_info rfl (by decide) w.heap.size _ (intV acc) (intV [x]) (some ⟨_, 0, none⟩) 1 rfl rfl HO2.out HI.out (intV_cell _) (by simp only [intV_len, List.length_cons, List.length_nil]; omega) hB.size ?_; intro v' w3 hO3 hlow hsz)
        go_roundw
        case rel => exact ⟨k + 1, acc ++ [x], by go_num, by omega, by simp; omega, hide (by simpa [intV] using hO3), hlow _ hB, HN⟩
        case measure => simp [intOf]; omega
    · have e7 : decide ((k : Int) < (ws.length : Int)) = false := decide_eq_false (by omega)
      have HN : Hid (R = some acc) := hide (by rw [HR.out, HH.out, List.drop_eq_nil_of_le (by omega)]; simp [pInts])
      clear HH
      go_wp2
      go_ret2
      have hR := HN.out
      subst hR
      exact ⟨_, rfl, HO.out, hb⟩
end Go.Proofs.YtlnonecibpjcoaaGreatDoor
