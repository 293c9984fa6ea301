/- The console at this program: the document's reading of words is the code's (plain). The document's answer for the console at this program: the words of what is asked. The document's answer for the console at this program: a line's words. The console at this program: the document's words of a line ar -/
import Derived.Test.YtbiedfkmmcaplaaGreatDoorRe
import Derived.Test.YtbiedfkmmcaplaaGreatDoorRd
import Derived.Lib.ItoaNum
import Derived.Lib.ParseIntB
import Derived.Test.YtbiedfkmmcaplaaGreatDoorRc
import Derived.Lib.IndexBytes
import Derived.Test.YtbiedfkmmcaplaaGreatDoorRa
import Derived.Test.YtbiedfkmmcaplaaGreatDoorAb
import Derived.StillTail
import Derived.Test.YtbiedfkmmcaplaaGreatDoorKE
set_option linter.all false
namespace Go.Proofs.YtbiedfkmmcaplaaGreatDoor
open Go.RowKit

def pairs : List Int → List (Int × Int)
  | x :: y :: l => (x, y) :: pairs l
  | _ => []
def askK (h : ByteArray) : Nat := if h = wCount then 1 else if h = wLeast then 2 else if h = wMost then 3 else if h = wSum then 4 else if h = wMean then 5 else if h = wAt then 6 else if h = wScan then 7 else 0
def whatK (h : ByteArray) : Nat := if h = wCount then 1 else if h = wLeast then 2 else if h = wMost then 3 else if h = wSum then 4 else if h = wMean then 5 else 0
def rNamed (h nm : ByteArray) (xs : List Int) : Option Cm :=
  if 0 < askK h then
    if askK h = 6 then (match xs with | [a] => some { ok := 5, qk := 6, qn := nm, qa := a } | _ => none)
    else (match xs with | [a, b] => some { ok := 5, qk := (askK h : Int), qn := nm, qa := a, qb := b } | _ => none)
  else if h = wCreate then (match xs with | [a, b] => some { ok := 1, mkd := 1, mn := nm, me := a, ms := b } | _ => none)
  else if h = wDrop then (match xs with | [] => some { ok := 1, mkd := 2, mn := nm } | _ => none)
  else if h = wAppend then (if 2 ≤ xs.length ∧ xs.length ≤ 40 ∧ xs.length % 2 = 0 then some { ok := 1, mkd := 3, mn := nm, pts := pairs xs } else none)
  else if h = wRetain then (match xs with | [a] => some { ok := 1, mkd := 4, mn := nm, mf := a } | _ => none)
  else none
def rRead (nm : ByteArray) : List ByteArray → Option Cm
  | [a, b] => match numW a, (if b.size = 16 then hexW b.data.toList 0 else none) with
    | some t, some n => some { ok := 6, nm := nm, t := t, bits := (n : Int) }
    | _, _ => none
  | _ => none
def rBuckets (nm : ByteArray) : List ByteArray → Option Cm
  | [x, a, b, c] => match pInts [a, b, c] with
    | some [u, v, n] => if 0 < whatK x then some { ok := 5, qk := 8, qn := nm, qa := u, qb := v, qw := (whatK x : Int), qN := n } else none
    | _ => none
  | _ => none
def rCmd : List ByteArray → Option Cm
  | [] => none
  | h :: l =>
    if h = wSync then (if l = [] then some { ok := 2 } else none)
    else if h = wFlush then (if l = [] then some { ok := 3 } else none)
    else if h = wCompact then (if l = [] then some { ok := 4 } else none)
    else if h = wPower then (match pInts l with | some [n] => some { kind := 2, n := n } | _ => none)
    else if h = wCrash then (match pInts l with | some xs => if xs.length ≤ 300 then some { kind := 3, masks := xs } else none | none => none)
    else match l with
      | [] => none
      | nm :: r => if nm.size ≤ 40 then
          (if h = wRead then rRead nm r else if h = wBuckets then rBuckets nm r else match pInts r with | some xs => rNamed h nm xs | none => none)
        else none

theorem pInts_len : ∀ {l : List ByteArray} {xs : List Int}, pInts l = some xs → xs.length = l.length
  | [], xs, h => by simp only [pInts, Option.some.injEq] at h; subst h; rfl
  | s :: l, xs, h => by
    simp only [pInts] at h
    split at h
    · split at h
      · rename_i ys hy
        injection h with h
        subst h
        simp [pInts_len hy]
      · cases h
    · cases h
theorem pts_ints : ∀ (l : List ByteArray), pPts l = if l.length % 2 = 0 then (pInts l).map pairs else none
  | [] => rfl
  | [_] => rfl
  | s :: t :: l => by
    have ih := pts_ints l
    have hm : (s :: t :: l).length % 2 = l.length % 2 := by simp only [List.length_cons]; omega
    rw [hm]
    simp only [pPts, pInts]
    cases numW s with
    | none => simp
    | some x =>
      cases numW t with
      | none => simp
      | some y =>
        rw [ih]
        by_cases hl : l.length % 2 = 0
        · rw [if_pos hl, if_pos hl]
          cases pInts l with
          | none => rfl
          | some ys => rfl
        · rw [if_neg hl, if_neg hl]
theorem pairs_len : ∀ (xs : List Int), (pairs xs).length = xs.length / 2
  | [] => rfl
  | [_] => by simp [pairs]
  | _ :: _ :: l => by simp only [pairs, List.length_cons, pairs_len l]; omega

theorem drop_is (l : List ByteArray) : (match pDrop l with | none => none | some (c, l') => if l' = [] then some c else none) = (match l with | [] => none | nm :: r => if nm.size ≤ 40 then (match pInts r with | some xs => (match xs with | [] => some ({ ok := 1, mkd := 2, mn := nm } : Cm) | _ => none) | none => none) else none) := by
  cases l with
  | nil => rfl
  | cons nm r =>
    simp only [pDrop, pName]
    by_cases hn : nm.size ≤ 40
    · rw [if_pos hn, if_pos hn]
      simp only
      cases r with
      | nil => rfl
      | cons s r =>
        rw [if_neg (by simp)]
        cases hp : pInts (s :: r) with
        | none => first | rfl | simp
        | some xs =>
          have := pInts_len hp
          cases xs with
          | nil => simp at this
          | cons => rfl
    · rw [if_neg hn, if_neg hn]
theorem two_is (f : ByteArray → Int → Int → Cm) (l : List ByteArray) :
    (match (match pName l with | none => none | some (s, l1) => match pNum l1 with | none => none | some (x, l2) => match pNum l2 with | none => none | some (y, l3) => some (f s x y, l3)) with | none => none | some (c, l') => if l' = [] then some c else none) =
    (match l with | [] => none | nm :: r => if nm.size ≤ 40 then (match pInts r with | some xs => (match xs with | [a, b] => some (f nm a b) | _ => none) | none => none) else none) := by
  cases l with
  | nil => rfl
  | cons nm r =>
    simp only [pName]
    by_cases hn : nm.size ≤ 40
    · rw [if_pos hn, if_pos hn]
      simp only
      match r with
      | [] => rfl
      | [a] => cases ha : numW a <;> simp [pNum, pInts, ha]
      | [a, b] => cases ha : numW a <;> cases hb : numW b <;> simp [pNum, pInts, ha, hb]
      | a :: b :: c :: r =>
        have e1 : (match pInts (a :: b :: c :: r) with | some xs => (match xs with | [a, b] => some (f nm a b) | _ => none) | none => none) = none := by
          cases hp : pInts (a :: b :: c :: r) with
          | none => rfl
          | some xs =>
            have := pInts_len hp
            match xs, this with
            | _ :: _ :: _ :: _, _ => rfl
        rw [e1]
        cases ha : numW a <;> cases hb : numW b <;> simp [pNum, ha, hb]
    · rw [if_neg hn, if_neg hn]
theorem one_is (f : ByteArray → Int → Cm) (l : List ByteArray) :
    (match (match pName l with | none => none | some (s, l1) => match pNum l1 with | none => none | some (x, l2) => some (f s x, l2)) with | none => none | some (c, l') => if l' = [] then some c else none) =
    (match l with | [] => none | nm :: r => if nm.size ≤ 40 then (match pInts r with | some xs => (match xs with | [a] => some (f nm a) | _ => none) | none => none) else none) := by
  cases l with
  | nil => rfl
  | cons nm r =>
    simp only [pName]
    by_cases hn : nm.size ≤ 40
    · rw [if_pos hn, if_pos hn]
      simp only
      match r with
      | [] => rfl
      | [a] =>
        simp only [pNum, pInts]
        cases numW a <;> first | rfl | simp
      | a :: b :: r =>
        simp only [pNum]
        cases hp : pInts (a :: b :: r) with
        | none => cases numW a <;> first | rfl | simp
        | some xs =>
          have := pInts_len hp
          match xs, this with
          | _ :: _ :: _, _ => cases numW a <;> first | rfl | simp
    · rw [if_neg hn, if_neg hn]
theorem append_is (l : List ByteArray) : (match pAppend l with | none => none | some (c, l') => if l' = [] then some c else none) = (match l with | [] => none | nm :: r => if nm.size ≤ 40 then (match pInts r with | some xs => (if 2 ≤ xs.length ∧ xs.length ≤ 40 ∧ xs.length % 2 = 0 then some ({ ok := 1, mkd := 3, mn := nm, pts := pairs xs } : Cm) else none) | none => none) else none) := by
  cases l with
  | nil => rfl
  | cons nm r =>
    simp only [pAppend, pName]
    by_cases hn : nm.size ≤ 40
    · rw [if_pos hn, if_pos hn]
      simp only [pts_ints]
      cases hp : pInts r with
      | none =>
        by_cases h2 : r.length % 2 = 0
        · rw [if_pos h2]; rfl
        · rw [if_neg h2]
      | some xs =>
        have hl := pInts_len hp
        by_cases h2 : r.length % 2 = 0
        · rw [if_pos h2]
          simp only [Option.map_some, pairs_len]
          by_cases hb : 2 ≤ xs.length ∧ xs.length ≤ 40 ∧ xs.length % 2 = 0
          · rw [if_pos hb, if_pos ⟨by omega, by omega⟩]; simp
          · rw [if_neg hb, if_neg (by omega)]
        · rw [if_neg h2]
          simp only
          rw [if_neg (by omega)]
    · rw [if_neg hn, if_neg hn]
theorem power_is (l : List ByteArray) : (match pPower l with | none => none | some (c, l') => if l' = [] then some c else none) = (match pInts l with | some [n] => some ({ kind := 2, n := n } : Cm) | _ => none) := by
  match l with
  | [] => rfl
  | [a] =>
    simp only [pPower, pNum, pInts]
    cases numW a <;> first | rfl | simp
  | a :: b :: r =>
    simp only [pPower, pNum]
    cases hp : pInts (a :: b :: r) with
    | none => cases numW a <;> first | rfl | simp
    | some xs =>
      have := pInts_len hp
      match xs, this with
      | _ :: _ :: _, _ => cases numW a <;> first | rfl | simp
theorem crash_is (l : List ByteArray) : (match pCrash l with | none => none | some (c, l') => if l' = [] then some c else none) = (match pInts l with | some xs => if xs.length ≤ 300 then some ({ kind := 3, masks := xs } : Cm) else none | none => none) := by
  simp only [pCrash]
  cases pInts l with
  | none => rfl
  | some xs =>
    by_cases h : xs.length ≤ 300
    · simp [h]
    · simp [h]
theorem read_is (l : List ByteArray) : (match pReading l with | none => none | some (c, l') => if l' = [] then some c else none) = (match l with | [] => none | nm :: r => if nm.size ≤ 40 then rRead nm r else none) := by
  cases l with
  | nil => rfl
  | cons nm r =>
    simp only [pReading, pName]
    by_cases hn : nm.size ≤ 40
    · rw [if_pos hn, if_pos hn]
      simp only
      match r with
      | [] => rfl
      | [a] =>
        simp only [pNum, rRead]
        cases numW a <;> first | rfl | simp
      | [a, b] =>
        simp only [pNum, rRead, pBits]
        cases numW a with
        | none => first | rfl | simp
        | some x =>
          simp only
          by_cases h16 : b.size = 16
          · rw [if_pos h16, if_pos h16]
            cases hexW b.data.toList 0 <;> first | rfl | simp
          · rw [if_neg h16, if_neg h16]
      | a :: b :: c :: r =>
        simp only [pNum, rRead, pBits]
        cases numW a with
        | none => first | rfl | simp
        | some x =>
          simp only
          by_cases h16 : b.size = 16
          · rw [if_pos h16]
            cases hexW b.data.toList 0 <;> first | rfl | simp
          · rw [if_neg h16]
    · rw [if_neg hn, if_neg hn]
theorem idx_what (x : ByteArray) : idxFrom whatR x 0 = (whatK x : Int) - 1 := by
  simp only [idxFrom, whatR, whatK]
  by_cases h1 : x = wCount
  · subst h1; decide
  · by_cases h2 : x = wLeast
    · subst h2; decide
    · by_cases h3 : x = wMost
      · subst h3; decide
      · by_cases h4 : x = wSum
        · subst h4; decide
        · by_cases h5 : x = wMean
          · subst h5; decide
          · simp [h1, h2, h3, h4, h5]
theorem buckets_is (l : List ByteArray) : (match pBuckets l with | none => none | some (c, l') => if l' = [] then some c else none) = (match l with | [] => none | nm :: r => if nm.size ≤ 40 then rBuckets nm r else none) := by
  cases l with
  | nil => rfl
  | cons nm r =>
    simp only [pBuckets, pName, idx_what]
    by_cases hn : nm.size ≤ 40
    · rw [if_pos hn, if_pos hn]
      simp only
      match r with
      | [] => rfl
      | [x] => simp only [pNext, pNum, rBuckets]; split <;> simp_all
      | [x, a] => cases ha : numW a <;> simp [pNext, pNum, rBuckets, ha]
      | [x, a, b] => cases ha : numW a <;> cases hb : numW b <;> simp [pNext, pNum, rBuckets, ha, hb]
      | [x, a, b, c] =>
        by_cases hx : 0 < whatK x
        · have hx2 : 0 ≤ (whatK x : Int) - 1 := by omega
          have hx3 : (whatK x : Int) - 1 + 1 = whatK x := by omega
          simp only [pNext, rBuckets, if_pos hx2, if_pos hx, hx3]
          cases ha : numW a <;> cases hb : numW b <;> cases hc : numW c <;> simp [pNum, pInts, ha, hb, hc]
        · have hx2 : ¬ 0 ≤ (whatK x : Int) - 1 := by omega
          simp only [pNext, rBuckets, if_neg hx2, if_neg hx]
          cases ha : numW a <;> cases hb : numW b <;> cases hc : numW c <;> simp [pInts, ha, hb, hc]
      | x :: a :: b :: c :: d :: r =>
        by_cases hx : 0 < whatK x
        · have hx2 : 0 ≤ (whatK x : Int) - 1 := by omega
          simp only [pNext, rBuckets, if_pos hx2]
          cases ha : numW a <;> cases hb : numW b <;> cases hc : numW c <;> simp [pNum, ha, hb, hc]
        · have hx2 : ¬ 0 ≤ (whatK x : Int) - 1 := by omega
          simp only [pNext, rBuckets, if_neg hx2]
    · rw [if_neg hn, if_neg hn]

theorem at_is (l : List ByteArray) : (match pAt l with | none => none | some (c, l') => if l' = [] then some c else none) = (match l with | [] => none | nm :: r => if nm.size ≤ 40 then (match pInts r with | some xs => (match xs with | [a] => some ({ ok := 5, qk := 6, qn := nm, qa := a } : Cm) | _ => none) | none => none) else none) := one_is (fun s x => { ok := 5, qk := 6, qn := s, qa := x }) l
theorem retain_is (l : List ByteArray) : (match pRetain l with | none => none | some (c, l') => if l' = [] then some c else none) = (match l with | [] => none | nm :: r => if nm.size ≤ 40 then (match pInts r with | some xs => (match xs with | [a] => some ({ ok := 1, mkd := 4, mn := nm, mf := a } : Cm) | _ => none) | none => none) else none) := one_is (fun s x => { ok := 1, mkd := 4, mn := s, mf := x }) l
theorem create_is (l : List ByteArray) : (match pCreate l with | none => none | some (c, l') => if l' = [] then some c else none) = (match l with | [] => none | nm :: r => if nm.size ≤ 40 then (match pInts r with | some xs => (match xs with | [a, b] => some ({ ok := 1, mkd := 1, mn := nm, me := a, ms := b } : Cm) | _ => none) | none => none) else none) := two_is (fun s x y => { ok := 1, mkd := 1, mn := s, me := x, ms := y }) l
theorem span_is (k : Int) (l : List ByteArray) : (match pSpan k l with | none => none | some (c, l') => if l' = [] then some c else none) = (match l with | [] => none | nm :: r => if nm.size ≤ 40 then (match pInts r with | some xs => (match xs with | [a, b] => some ({ ok := 5, qk := k, qn := nm, qa := a, qb := b } : Cm) | _ => none) | none => none) else none) := two_is (fun s x y => { ok := 5, qk := k, qn := s, qa := x, qb := y }) l

theorem rCmd_is (ws : List ByteArray) : rCmd ws = pWords ws := by
  cases ws with
  | nil => rfl
  | cons h l =>
    simp only [rCmd, pWords]
    by_cases h1 : h = wSync
    · subst h1
      rw [show headOf wSync = some (.one 2) by decide]
      simp only [if_true, pHead]
    rw [if_neg h1]
    by_cases h2 : h = wFlush
    · subst h2
      rw [show headOf wFlush = some (.one 3) by decide]
      simp only [if_true, pHead]
    rw [if_neg h2]
    by_cases h3 : h = wCompact
    · subst h3
      rw [show headOf wCompact = some (.one 4) by decide]
      simp only [if_true, pHead]
    rw [if_neg h3]
    by_cases h4 : h = wPower
    · subst h4
      rw [show headOf wPower = some (.fn 43) by decide]
      exact (power_is l).symm
    rw [if_neg h4]
    by_cases h5 : h = wCrash
    · subst h5
      rw [show headOf wCrash = some (.fn 44) by decide]
      exact (crash_is l).symm
    rw [if_neg h5]
    by_cases h6 : h = wRead
    · subst h6
      rw [show headOf wRead = some (.fn 40) by decide]
      refine Eq.trans ?_ (read_is l).symm
      cases l <;> rfl
    by_cases h7 : h = wBuckets
    · subst h7
      rw [show headOf wBuckets = some (.fn 42) by decide]
      refine Eq.trans ?_ (buckets_is l).symm
      cases l <;> rfl
    simp only [if_neg h6, if_neg h7]
    have key : ∀ (hd : Option Head) (f : ByteArray → List Int → Option Cm), headOf h = hd → (∀ nm xs, rNamed h nm xs = f nm xs) →
        (match hd with | none => none | some hh => match pHead hh l with | none => none | some (c, l') => if l' = [] then some c else none) = (match l with | [] => none | nm :: r => if nm.size ≤ 40 then (match pInts r with | some xs => f nm xs | none => none) else none) →
        (match l with | [] => none | nm :: r => if nm.size ≤ 40 then (match pInts r with | some xs => rNamed h nm xs | none => none) else none) = (match headOf h with | none => none | some hh => match pHead hh l with | none => none | some (c, l') => if l' = [] then some c else none) := by
      intro hd f e1 e2 e3
      rw [e1, e3]
      simp only [e2]
    by_cases h8 : h = wCreate
    · subst h8; exact key (some (.fn 36)) _ (by decide) (fun nm xs => rfl) (create_is l)
    by_cases h9 : h = wDrop
    · subst h9; exact key (some (.fn 37)) _ (by decide) (fun nm xs => rfl) (drop_is l)
    by_cases h10 : h = wAppend
    · subst h10; exact key (some (.fn 38)) _ (by decide) (fun nm xs => rfl) (append_is l)
    by_cases h11 : h = wRetain
    · subst h11; exact key (some (.fn 39)) _ (by decide) (fun nm xs => rfl) (retain_is l)
    by_cases h12 : h = wAt
    · subst h12; exact key (some (.fn 41)) _ (by decide) (fun nm xs => rfl) (at_is l)
    by_cases h13 : h = wCount
    · subst h13; exact key (some (.span 1)) _ (by decide) (fun nm xs => rfl) (span_is 1 l)
    by_cases h14 : h = wLeast
    · subst h14; exact key (some (.span 2)) _ (by decide) (fun nm xs => rfl) (span_is 2 l)
    by_cases h15 : h = wMost
    · subst h15; exact key (some (.span 3)) _ (by decide) (fun nm xs => rfl) (span_is 3 l)
    by_cases h16 : h = wSum
    · subst h16; exact key (some (.span 4)) _ (by decide) (fun nm xs => rfl) (span_is 4 l)
    by_cases h17 : h = wMean
    · subst h17; exact key (some (.span 5)) _ (by decide) (fun nm xs => rfl) (span_is 5 l)
    by_cases h18 : h = wScan
    · subst h18; exact key (some (.span 7)) _ (by decide) (fun nm xs => rfl) (span_is 7 l)
    refine key none (fun _ _ => none) ?_ (fun nm xs => ?_) ?_
    · simp [headOf, headL, heads, h1, h2, h3, h4, h5, h6, h7, h8, h9, h10, h11, h12, h13, h14, h15, h16, h17, h18]
    · simp [rNamed, askK, h8, h9, h10, h11, h12, h13, h14, h15, h16, h17, h18]
    · cases l with
      | nil => rfl
      | cons nm r =>
        simp only
        split
        · cases pInts r <;> rfl
        · rfl
end Go.Proofs.YtbiedfkmmcaplaaGreatDoor

namespace Go.Proofs.YtbiedfkmmcaplaaGreatDoor
open Go.RowKit
attribute [local go_sem] Oper.semAt_some

def rWhatL : List ByteArray := [⟨#[]⟩, ⟨#[99, 111, 117, 110, 116]⟩, ⟨#[108, 101, 97, 115, 116]⟩, ⟨#[109, 111, 115, 116]⟩, ⟨#[115, 117, 109]⟩, ⟨#[109, 101, 97, 110]⟩, ⟨#[97, 116]⟩, ⟨#[115, 99, 97, 110]⟩, ⟨#[98, 117, 99, 107, 101, 116, 115]⟩]
def rWhatB (n : Nat) : ByteArray := rWhatL.getD n ⟨#[]⟩

end Go.Proofs.YtbiedfkmmcaplaaGreatDoor

namespace Go.Proofs.YtbiedfkmmcaplaaGreatDoor
open Go.RowKit
attribute [local go_sem] Oper.semAt_some

def rW : List UInt8 → ByteArray → List ByteArray → Option (List ByteArray)
  | [], word, out => if word.size = 0 then none else some (out ++ [word])
  | b :: r, word, out => if b.toNat < 32 ∨ 126 < b.toNat then none else if b.toNat = 32 then (if word.size = 0 then none else rW r ⟨#[]⟩ (out ++ [word])) else rW r (word ++ ⟨#[b]⟩) out
end Go.Proofs.YtbiedfkmmcaplaaGreatDoor

namespace Go.Proofs.YtbiedfkmmcaplaaGreatDoor
open Go.RowKit

def spl : List UInt8 → List UInt8 → List (List UInt8)
  | acc, [] => [acc]
  | acc, b :: r => if b = 32 then acc :: spl [] r else spl (acc ++ [b]) r
theorem spl_miss : ∀ (l acc : List UInt8), Lib.indexByte l 32 = -1 → spl acc l = [acc ++ l]
  | [], acc, _ => by simp [spl]
  | b :: r, acc, h => by
    have hb := Lib.indexByte_none h
    have h0 : b ≠ 32 := by have := hb 0; simpa using this
    have hr : Lib.indexByte r 32 = -1 := by
      rcases Int.lt_or_le (Lib.indexByte r 32) 0 with h1 | h1
      · have := Lib.indexByte_ge r 32; omega
      · obtain ⟨o, ho⟩ := Int.eq_ofNat_of_zero_le h1
        have := (Lib.indexByte_some ho).1
        exact absurd this (by have := hb (o + 1); simpa using this)
    rw [spl, if_neg h0, spl_miss r _ hr]
    simp
theorem spl_hit : ∀ (l acc : List UInt8) (i : Nat), Lib.indexByte l 32 = i → spl acc l = (acc ++ l.take i) :: spl [] (l.drop (i + 1))
  | [], acc, i, h => by have := (Lib.indexByte_some h).1; simp at this
  | b :: r, acc, i, h => by
    obtain ⟨h1, h2⟩ := Lib.indexByte_some h
    cases i with
    | zero =>
      have hb : b = 32 := by simpa using h1
      rw [spl, if_pos hb]
      simp
    | succ i =>
      have hb : b ≠ 32 := by have := h2 0 (by omega); simpa using this
      have hr : Lib.indexByte r 32 = i := by
        have g1 : r[i]? = some 32 := by simpa using h1
        rcases Int.lt_or_le (Lib.indexByte r 32) 0 with q | q
        · have := Lib.indexByte_ge r 32
          exact absurd g1 (Lib.indexByte_none (by omega) i)
        · obtain ⟨o, ho⟩ := Int.eq_ofNat_of_zero_le q
          obtain ⟨a1, a2⟩ := Lib.indexByte_some ho
          rcases Nat.lt_trichotomy o i with q1 | q1 | q1
          · exact absurd a1 (by have := h2 (o + 1) (by omega); simpa using this)
          · rw [ho, q1]
          · exact absurd g1 (a2 i q1)
      rw [spl, if_neg hb, spl_hit r _ i hr]
      simp
theorem split_spl : ∀ (n : Nat) (l : List UInt8), l.length ≤ n → Lib.splitK [32] 0 (Lib.count l [32]) l = spl [] l := by
  intro n
  induction n with
  | zero =>
    intro l h
    obtain rfl : l = [] := List.eq_nil_of_length_eq_zero (by omega)
    decide
  | succ n ih =>
    intro l h
    rcases Int.lt_or_le (Lib.indexByte l 32) 0 with q | q
    · have hm : Lib.indexByte l 32 = -1 := by have := Lib.indexByte_ge l 32; omega
      rw [Lib.count_miss (by rw [Lib.index_one, hm]), spl_miss l [] hm]
      rfl
    · obtain ⟨i, hi⟩ := Int.eq_ofNat_of_zero_le q
      have hx : Lib.index l [32] = (i : Int) := by rw [Lib.index_one, hi]
      have hlt : i < l.length := by
        have := (Lib.indexByte_some hi).1
        exact (List.getElem?_eq_some_iff.1 this).1
      rw [Lib.count_hit (by simp) hx, spl_hit l [] i hi, Nat.add_comm]
      unfold Lib.splitK
      rw [if_neg (by rw [hx]; simp), hx]
      simp only [List.length_cons, List.length_nil, Nat.zero_add, Int.toNat_natCast, Nat.add_zero, List.nil_append]
      rw [ih (l.drop (i + 1)) (by simp; omega)]
def toB (l : List UInt8) : ByteArray := ⟨l.toArray⟩
theorem toB_of (s : ByteArray) : toB s.data.toList = s := by unfold toB; simp
theorem words_is (s : ByteArray) : wordsOf s = (spl [] s.data.toList).map toB := by
  have h := Lib.splitB_data ⟨#[32]⟩ 0 (Lib.countB s ⟨#[32]⟩) s
  have h2 : Lib.splitK (ByteArray.mk #[32]).data.toList 0 (Lib.countB s ⟨#[32]⟩) s.data.toList = spl [] s.data.toList := split_spl _ _ (Nat.le_refl _)
  rw [h2] at h
  rw [← h, List.map_map]
  unfold wordsOf
  conv => lhs; rw [← List.map_id (Lib.splitB _ _ _ _)]
  apply List.map_congr_left
  intro x _
  exact (toB_of x).symm
theorem rW_is : ∀ (l : List UInt8) (word : ByteArray) (out : List ByteArray), rW l word out = if plainB l = true ∧ (∀ p ∈ spl word.data.toList l, p ≠ []) then some (out ++ (spl word.data.toList l).map toB) else none
  | [], word, out => by
    simp only [rW, spl, plainB, List.all_nil, true_and, List.mem_singleton, forall_eq, List.map_cons, List.map_nil, toB_of]
    have hz : word.data.toList.length = word.size := by simp
    by_cases h : word.size = 0
    · rw [if_pos h, if_neg]
      simp only [ne_eq, Classical.not_not]
      exact List.eq_nil_of_length_eq_zero (by omega)
    · rw [if_neg h, if_pos]
      intro e
      rw [e] at hz
      simp at hz
      omega
  | b :: r, word, out => by
    have hz : word.data.toList.length = word.size := by simp
    simp only [rW]
    by_cases hp : b.toNat < 32 ∨ 126 < b.toNat
    · rw [if_pos hp, if_neg]
      simp only [plainB, List.all_cons, Bool.and_eq_true, decide_eq_true_eq]
      omega
    · rw [if_neg hp]
      have hpl : plainB (b :: r) = plainB r := by
        simp only [plainB, List.all_cons]
        rw [decide_eq_true (by omega), decide_eq_true (by omega)]
        simp
      rw [hpl]
      by_cases hb : b.toNat = 32
      · have hb2 : b = 32 := UInt8.toNat.inj hb
        rw [if_pos hb, spl, if_pos hb2]
        by_cases h : word.size = 0
        · rw [if_pos h, if_neg]
          rintro ⟨_, h2⟩
          exact h2 word.data.toList (by simp) (List.eq_nil_of_length_eq_zero (by omega))
        · rw [if_neg h, rW_is r ⟨#[]⟩ (out ++ [word])]
          have hne : word.data.toList ≠ [] := by intro e; rw [e] at hz; simp at hz; omega
          have e1 : (ByteArray.mk #[]).data.toList = [] := rfl
          rw [e1]
          simp only [List.mem_cons, forall_eq_or_imp, List.map_cons, toB_of]
          by_cases hc : plainB r = true ∧ ∀ p ∈ spl [] r, p ≠ []
          · rw [if_pos hc, if_pos ⟨hc.1, hne, hc.2⟩]
            simp
          · rw [if_neg hc, if_neg fun x => hc ⟨x.1, x.2.2⟩]
      · have hb2 : b ≠ 32 := fun e => hb (by rw [e]; rfl)
        rw [if_neg hb, spl, if_neg hb2, rW_is r _ out]
        have e1 : (word ++ ⟨#[b]⟩ : ByteArray).data.toList = word.data.toList ++ [b] := by simp
        rw [e1]
def rLine (s : ByteArray) : Option Cm := match rW s.data.toList ⟨#[]⟩ [] with | some ws => rCmd ws | none => none
theorem idx_empty : ∀ (l : List ByteArray) (k : Nat), 0 ≤ idxFrom l ⟨#[]⟩ k ↔ ∃ x ∈ l, x = ⟨#[]⟩
  | [], k => by simp [idxFrom]
  | s :: l, k => by
    simp only [idxFrom]
    by_cases h : (⟨#[]⟩ : ByteArray) = s
    · rw [if_pos h]
      constructor
      · intro _; exact ⟨s, by simp, h.symm⟩
      · intro _; omega
    · rw [if_neg h, idx_empty l (k + 1)]
      constructor
      · rintro ⟨x, hx, e⟩; exact ⟨x, by simp [hx], e⟩
      · rintro ⟨x, hx, e⟩
        rcases List.mem_cons.1 hx with rfl | hx
        · exact absurd e.symm h
        · exact ⟨x, hx, e⟩
theorem rLine_is (s : ByteArray) : rLine s = pLine s := by
  unfold rLine pLine
  rw [rW_is, words_is]
  have e1 : (ByteArray.mk #[]).data.toList = [] := rfl
  rw [e1]
  by_cases hp : plainB s.data.toList = true
  · rw [if_pos hp]
    by_cases hq : ∀ p ∈ spl [] s.data.toList, p ≠ []
    · rw [if_pos ⟨hp, hq⟩, if_neg]
      · simp only [List.nil_append]
        exact rCmd_is _
      · rw [idx_empty]
        rintro ⟨x, hx, rfl⟩
        obtain ⟨p, hp1, hp2⟩ := List.mem_map.1 hx
        refine hq p hp1 ?_
        have := congrArg (fun z : ByteArray => z.data.toList) hp2
        simpa [toB] using this
    · rw [if_neg fun x => hq x.2, if_pos]
      rw [idx_empty]
      have : ∃ p ∈ spl [] s.data.toList, p = [] := by
        apply Classical.byContradiction
        intro hn
        exact hq fun p hp e => hn ⟨p, hp, e⟩
      obtain ⟨p, hp1, rfl⟩ := this
      exact ⟨toB [], List.mem_map.2 ⟨[], hp1, rfl⟩, rfl⟩
  · rw [if_neg hp, if_neg fun x => hp x.1]
end Go.Proofs.YtbiedfkmmcaplaaGreatDoor

namespace Go.Proofs.YtbiedfkmmcaplaaGreatDoor
open Go.RowKit
attribute [local go_sem] Oper.semAt_some

theorem intV_cell (l : List Int) : ∀ v ∈ intV l, v.oneCell' = true := by
  intro v hv
  obtain ⟨x, _, rfl⟩ := List.mem_map.1 hv
  rfl

end Go.Proofs.YtbiedfkmmcaplaaGreatDoor

namespace Go.Proofs.YtbiedfkmmcaplaaGreatDoor
open Go.RowKit
attribute [local go_sem] Oper.semAt_some

theorem litNe {a : ByteArray} (l : List UInt8) (h : a ≠ ⟨l.toArray⟩) : (a.toList == l) = false := by
  rw [beq_eq_false_iff_ne]
  intro e
  apply h
  apply ByteArray.ext
  rw [ByteArray.toList_eq] at e
  show a.data = l.toArray
  rw [← e]
end Go.Proofs.YtbiedfkmmcaplaaGreatDoor

namespace Go.Proofs.YtbiedfkmmcaplaaGreatDoor
open Go.RowKit
attribute [local go_sem] Oper.semAt_some

structure NoBare (hd : ByteArray) : Prop where
  a1 : (hd.toList == ([115, 121, 110, 99] : List UInt8)) = false
  a2 : (hd.toList == ([102, 108, 117, 115, 104] : List UInt8)) = false
  a3 : (hd.toList == ([99, 111, 109, 112, 97, 99, 116] : List UInt8)) = false
  a4 : (hd.toList == ([112, 111, 119, 101, 114] : List UInt8)) = false
  a5 : (hd.toList == ([99, 114, 97, 115, 104] : List UInt8)) = false
theorem NoBare.of {hd : ByteArray} (h1 : hd ≠ wSync) (h2 : hd ≠ wFlush) (h3 : hd ≠ wCompact) (h4 : hd ≠ wPower) (h5 : hd ≠ wCrash) : NoBare hd :=
  ⟨litNe _ h1, litNe _ h2, litNe _ h3, litNe _ h4, litNe _ h5⟩

end Go.Proofs.YtbiedfkmmcaplaaGreatDoor

namespace Go.Proofs.YtbiedfkmmcaplaaGreatDoor
open Go.RowKit
namespace Abs

section
variable {P : Program} {ops : Array Oper} {C : Cls}

def tailB (ops : Array Oper) (L : Nat) : Bool := (List.range ops.size).all fun t => decide (t < L) || (List.range L).all fun i => reach ops t i
def okFromL (ops : Array Oper) (L : Nat) : List Nat → Array Bool → Bool
  | [], listed => Region.seqB .any ops (ops.size - L) L listed
  | i :: l, listed => decide (i < L) && (Region.ready .any ops listed).contains i && freeOf ops listed i && okFromL ops L l (listed.setIfInBounds i true)
def okL (ops : Array Oper) (ord : List Nat) (L : Nat) : Bool := Region.noSelect ops && tailB ops L && decide (L < ops.size) && okFromL ops L ord (Array.replicate ops.size false) && (ord.length == L)

def wpAnyT (P : Program) (ops : Array Oper) (C : Cls) (L : Nat) (Q : Act → St → Prop) : Nat → Array Bool → Act → St → Prop
  | 0, listed, a, s => Region.seqB .any ops (ops.size - L) L listed = true ∧ Q a s
  | n + 1, listed, a, s => Region.ready .any ops listed ≠ [] ∧ ∀ i ∈ Region.ready .any ops listed, i < L ∧ aOp P ops C i (wpAnyT P ops C L Q n (listed.setIfInBounds i true)) a s

theorem firstT {Q : Act → St → Prop} {L i : Nat} {oi : Oper} (hi : ops[i]? = some oi) (hiL : i < L) (hT : tailB ops L = true) (hsel : ∀ (j : Nat) (o : Oper) cs b, ops[j]? = some o → o.op ≠ .select cs b) :
    ∀ (n : Nat) (listed : Array Bool) (a : Act) (s : St), Closed ops listed →
      (∀ j oj, ops[j]? = some oj → j ≠ i → listed.getD j true = false → reach ops j i = true ∨ (oi.apart ops oj = true ∧ compat (kindOf oi) (kindOf oj) = true)) →
      i ∈ Region.ready .any ops listed → Good C s → aOp P ops C i (wpAnyT P ops C L Q n (listed.setIfInBounds i true)) a s → wpAnyT P ops C L Q (n + 1) listed a s := by
  intro n
  induction n with
  | zero =>
    intro listed a s hcl hfree hr hg H
    refine ⟨fun h => (by rw [h] at hr; cases hr), fun j hj => ?_⟩
    obtain ⟨hiun, oi', hoi', halli⟩ := mem_ready.1 hr
    obtain ⟨hjun, oj, hoj, hall⟩ := mem_ready.1 hj
    have nolist : ∀ k : Nat, listed.getD k true = false → listed.getD k false = true → False := fun k h0 h1 => by
      rcases Nat.lt_or_ge k listed.size with h' | h'
      · simp [h'] at h0 h1; rw [h0] at h1; cases h1
      · simp [Array.getElem?_eq_none h'] at h0
    have hjL : j < L := tail_no hT hcl nolist hiun hiL hoj hall
    by_cases hji : j = i
    · subst hji; exact ⟨hjL, H⟩
    · exfalso
      have h1 := ready_mono hj hji
      have key : Region.seqB .any ops (ops.size - L) L (listed.setIfInBounds i true) = true := by
        have hex : ∃ a' s', wpAnyT P ops C L Q 0 (listed.setIfInBounds i true) a' s' := by
          unfold aOp at H
          simp only [hi] at H
          obtain ⟨w, hw⟩ := hg.1
          rcases H with ⟨v, _, hK⟩ | ⟨h1, h2, h3, φ, h4, h5, h6⟩ | ⟨h1, h2, h3, f, obj, h4, h5⟩ | ⟨h1, h2, T, h3, h4⟩
          · exact ⟨_, _, hK hg⟩
          · obtain ⟨hJ, w0, hI, x1, x2, x3, x4⟩ := id hw
            have e := x4 h3
            subst e
            obtain ⟨v0, w', hr', hp⟩ := nonq_ex (h5 w hI (fun j _ => x1 j))
            exact ⟨_, _, h6 v0 ⟨⟨w', Good.setF hg h3 hw hr' hp⟩, Cl_upd hg.2.1 (h4 v0), hg.2.2⟩⟩
          · obtain ⟨hJ, w0, hI, x1, x2, x3, x4⟩ := id hw
            have e := x4 h3
            subst e
            have hB0 := C.hB w hI
            exact ⟨_, _, h5 w.heap.size hB0 (fun hu => Nat.lt_irrefl _ (x2 _ hu)) ⟨⟨_, Good.addA hg h3 hw⟩, Cl_upd hg.2.1 (Cl_block fun ht => Nat.lt_irrefl _ (Nat.lt_of_lt_of_le (C.low _ ht) hB0)), hg.2.2⟩⟩
          · obtain ⟨hJ, w0, hI, x1, x2, x3, x4⟩ := hw
            obtain ⟨_, q⟩ := h3 w0 hI x1 x2
            exact ⟨_, _, h4 ⟨⟨T w0, q (x3 ▸ hJ), w0, hI, x1, x2, rfl, fun e => by cases e⟩, hg.2.1, fun e => by cases e⟩⟩
        obtain ⟨_, _, h, _⟩ := hex
        exact h
      have := seqB_ready key j h1
      omega
  | succ n ih =>
    intro listed a s hcl hfree hr hg H
    refine ⟨fun h => (by rw [h] at hr; cases hr), fun j hj => ?_⟩
    obtain ⟨hiun, oi', hoi', halli⟩ := mem_ready.1 hr
    obtain ⟨hjun, oj, hoj, hall⟩ := mem_ready.1 hj
    have nolist : ∀ k : Nat, listed.getD k true = false → listed.getD k false = true → False := fun k h0 h1 => by
      rcases Nat.lt_or_ge k listed.size with h' | h'
      · simp [h'] at h0 h1; rw [h0] at h1; cases h1
      · simp [Array.getElem?_eq_none h'] at h0
    have hjL : j < L := tail_no hT hcl nolist hiun hiL hoj hall
    refine ⟨hjL, ?_⟩
    by_cases hji : j = i
    · subst hji; exact H
    · have hnot : reach ops j i = true → False := fun hre => nolist i hiun (reach_listed hcl j i oj hoj hall hre)
      obtain ⟨hap, hco⟩ := (hfree j oj hoj hji hjun).resolve_left hnot
      have hij : kindOf oj = .s → sunk ops i = false := fun hk => by
        cases hsu : sunk ops i
        · rfl
        · exact (hnot (sunk_spec hsu hoj hk)).elim
      have H1 : aOp P ops C i (fun a' s' => aOp P ops C j (wpAnyT P ops C L Q n ((listed.setIfInBounds i true).setIfInBounds j true)) a' s') a s :=
        aOp_mono P ops C (fun a' s' h => (h.2 j (ready_mono hj hji)).2) H
      have H2 := swap hi hoj hap hco (fun cs b => hsel i oi cs b hi) (fun cs b => hsel j oj cs b hoj) hij hg H1
      have hfree' : ∀ k ok, ops[k]? = some ok → k ≠ i → (listed.setIfInBounds j true).getD k true = false → reach ops k i = true ∨ (oi.apart ops ok = true ∧ compat (kindOf oi) (kindOf ok) = true) := fun k ok hk hki hun => by
        refine hfree k ok hk hki ?_
        by_cases hjk : j = k
        · subst hjk; exact hjun
        · rw [getD_set_ne true hjk] at hun; exact hun
      unfold aOp at H2 ⊢
      simp only [hoj] at H2 ⊢
      refine Does_mono P ops C (fun a' s' h3 hg' => ?_) H2
      refine ih (listed.setIfInBounds j true) a' s' (hcl.set hj) hfree' (ready_mono hr (Ne.symm hji)) hg' ?_
      rw [Array.setIfInBounds_comm _ _ hji]
      exact h3 hg'
  where
  tail_no {ops : Array Oper} {L i j : Nat} {oj : Oper} {listed : Array Bool} (hT : tailB ops L = true) (hcl : Closed ops listed) (nolist : ∀ k : Nat, listed.getD k true = false → listed.getD k false = true → False)
      (hiun : listed.getD i true = false) (hiL : i < L) (hoj : ops[j]? = some oj) (hall : ∀ e ∈ oj.after, Region.binds .any e = true → listed.getD e.on false = true) : j < L := by
    rcases Nat.lt_or_ge j L with h | h
    · exact h
    · exfalso
      have hlt : j < ops.size := (Array.getElem?_eq_some_iff.1 hoj).1
      have h1 := List.all_eq_true.1 hT j (List.mem_range.2 hlt)
      simp only [Bool.or_eq_true, decide_eq_true_eq] at h1
      rcases h1 with h1 | h1
      · omega
      · exact nolist i hiun (reach_listed hcl j i oj hoj hall (List.all_eq_true.1 h1 i (List.mem_range.2 hiL)))

theorem anyT_of_ord {Q : Act → St → Prop} {L : Nat} (hT : tailB ops L = true) (hsel : ∀ (j : Nat) (o : Oper) cs b, ops[j]? = some o → o.op ≠ .select cs b) : ∀ (l : List Nat) (listed : Array Bool) (a : Act) (s : St), Closed ops listed → okFromL ops L l listed = true → Good C s →
    wpOrd P ops C Q l a s → wpAnyT P ops C L Q l.length listed a s
  | [], listed, a, s, _, hB, _, h => ⟨by simpa [okFromL] using hB, h⟩
  | i :: l, listed, a, s, hcl, hB, hg, h => by
    simp only [okFromL, Bool.and_eq_true, decide_eq_true_eq] at hB
    obtain ⟨⟨⟨hiL, hr⟩, hf⟩, hB'⟩ := hB
    have hr' : i ∈ Region.ready .any ops listed := by simpa using hr
    obtain ⟨_, oi, hoi, _⟩ := mem_ready.1 hr'
    refine firstT hoi hiL hT hsel l.length listed a s hcl (freeOf_spec hoi hf) hr' hg ?_
    have h' : aOp P ops C i (wpOrd P ops C Q l) a s := h
    unfold aOp at h' ⊢
    simp only [hoi] at h' ⊢
    exact Does_mono P ops C (fun a' s' h3 hg' => anyT_of_ord hT hsel l _ a' s' (hcl.set hr') hB' hg' (h3 hg')) h'

theorem wpAny_of_absT {Q : Act → St → Prop} {Q' : Exit → Act → World → Prop} {L : Nat} {tl : List Oper} (htl : ∀ j, tl[j]? = ops[L + j]?) (hlen : ops.size - L = tl.length)
    (hQ : ∀ a s w, Good C s → Sat C s w → Q a s → wpList P ops Q' tl a w) : ∀ (n : Nat) (listed : Array Bool) (a : Act) (s : St) (w : World), Good C s → Sat C s w →
    wpAnyT P ops C L Q n listed a s → wpAny P .any ops Q' (n + tl.length) listed a w
  | 0, listed, a, s, w, hg, hw, h => by
    rw [Nat.zero_add]
    refine wpAny_of_seq tl L listed a w htl ?_ (hQ _ _ _ hg hw h.2)
    rw [← hlen]; exact h.1
  | n + 1, listed, a, s, w, hg, hw, h => by
    rw [show n + 1 + tl.length = (n + tl.length) + 1 by omega]
    exact ⟨fun h0 => absurd h0 h.1, fun i hi => wpOp_of_aOp hg hw (fun a' s' w' hg' hw' hk => wpAny_of_absT htl hlen hQ n _ a' s' w' hg' hw' hk) (h.2 i hi).2⟩

theorem wp_region_tail {id : Nat} {Q : Exit → Act → World → Prop} {a : Act} {w : World} {l : List Oper} (C : Cls) (ord : List Nat) (L : Nat) (hm : P.follows .mixedOrders = true) (hB : okL l.toArray ord L = true) (hI : C.I w.drew)
    (h : wpOrd P l.toArray C (fun a s => ∀ w0, C.I w0 → (∀ j, s.F j w0) → (∀ k, s.U k → k < w0.heap.size) → C.J (s.T w0) → wpList P l.toArray Q (l.drop L) a (s.T w0)) ord a St.start) : (Code.region id l.toArray true).wp P Q a w := by
  simp only [okL, Bool.and_eq_true, beq_iff_eq, decide_eq_true_eq] at hB
  obtain ⟨⟨⟨⟨hs, hT⟩, hL⟩, hok⟩, hlen⟩ := hB
  have hgood : Good C St.start := ⟨⟨w.drew, C.IJ _ hI, w.drew, hI, fun _ => trivial, fun _ hk => hk.elim, rfl, fun _ => rfl⟩, fun _ _ _ h _ => h, fun _ _ => rfl⟩
  have hsat : Sat C St.start w.drew := ⟨C.IJ _ hI, w.drew, hI, fun _ => trivial, fun _ hk => hk.elim, rfl, fun _ => rfl⟩
  refine wp_region_any hm ?_
  have hL' : L < l.length := by simpa using hL
  have hsz : l.toArray.size = ord.length + (l.drop L).length := by simp; omega
  rw [hsz]
  refine wpAny_of_absT (C := C) (L := L) (Q := fun a s => ∀ w0, C.I w0 → (∀ j, s.F j w0) → (∀ k, s.U k → k < w0.heap.size) → C.J (s.T w0) → wpList P l.toArray Q (l.drop L) a (s.T w0)) (fun j => by simp) (by simp) (fun a s w _ hw hq => ?_) _ _ _ _ _ hgood hsat
    (anyT_of_ord hT (Region.noSelect_spec hs) ord _ a _ ?_ (by rw [← hsz]; exact hok) hgood h)
  · obtain ⟨hJ, w0, hI0, x1, x2, x3, _⟩ := hw
    subst x3
    exact hq w0 hI0 x1 x2 hJ
  · intro j oj _ hl
    rw [wp_region_abs.getD_replicate] at hl
    cases hl
end
end Abs
end Go.Proofs.YtbiedfkmmcaplaaGreatDoor

namespace Go.Proofs.YtbiedfkmmcaplaaGreatDoor
open Go.RowKit
attribute [local go_sem] Oper.semAt_some

theorem InK.at {w : World} {g : Nat} {cs : Array Value} {T : TypeId} {k : Nat} (h : w.heap[g]? = some (.cells cs T (0, 0))) (hk : cs.size = k) : InK w (some ⟨g, 0, none⟩) 1 k cs.toList :=
  ⟨by simp [hk], fun _ => ⟨_, rfl, (Array.getElem?_eq_some_iff.1 h).1, fun i hi => by
    rw [show (⟨g, 0, none⟩ : Addr).add i = ⟨g, i, none⟩ by
      unfold Addr.add
      split
      · next h0 => simp [h0]
      · simp]
    rw [(rcell h).1]
    simp⟩⟩
theorem wpList_storeS {ops : Array Oper} {rest : List Oper} {o : Oper} {a : Act} {w : World} {Q : Exit → Act → World → Prop} (hgd : o.guard = none) (t e : TypeId) (hu : Tryz.prog.underlying t = some (.slice e)) (p x : Operand)
    (ho : o.op = .store t p x) (g i : Nat) (T : TypeId) (old : Array Value) (A : Option Addr) (n c : Nat) (hp : a.eval p = .pointer (some ⟨g, i, none⟩)) (hx : a.eval x = .slice A n c)
    (hg : w.heap[g]? = some (.cells old T (0, 0))) (hi : i < old.size) (hz : ∀ w, (sizeOf t).run Tryz.prog w = .ok 1 w)
    (h : wpList Tryz.prog ops Q rest (a.put o.dst undef) (setRow w g (old.setIfInBounds i (.slice A n c)))) : wpList Tryz.prog ops Q (o :: rest) a w := by
  have hrun : (Instr.storeAt t (.pointer (some ⟨g, i, none⟩)) (.slice A n c)).run Tryz.prog w = .ok () (w.setCell ⟨g, i, none⟩ (.slice A n c)) := by
    obtain ⟨z1, z2, z3⟩ := rcell hg
    have e1 : w.cell? ⟨g, i, none⟩ = some old[i] := by rw [z1]; simp [hi]
    have e2 := z2 i
    simp [Instr.storeAt, Instr.sureAddr, storeVar, hz, storeCells, go_sem, e1, e2]
  refine wpList_plain hgd fun _ hK => ?_
  unfold Oper.wp execOp
  simp only [ho, hp, hx, Sem.run_bind, Sem.run_pure, Result.andThen_ok, hrun]
  rw [setRow_of_setCell hg _ rfl]
  exact hK _ _ h

end Go.Proofs.YtbiedfkmmcaplaaGreatDoor

namespace Go.Proofs.YtbiedfkmmcaplaaGreatDoor
open Go.RowKit
attribute [local go_sem] Oper.semAt_some

theorem eqF {a b : ByteArray} (h : a ≠ b) : (a.toList == b.toList) = false := by
  rw [beq_eq_false_iff_ne]
  intro e
  apply h
  apply ByteArray.ext
  rw [ByteArray.toList_eq, ByteArray.toList_eq] at e
  exact Array.toList_inj.1 e
theorem whatK_of {x : ByteArray} {k : Nat} (h1 : 1 ≤ k) (h5 : k ≤ 5) (e : rWhatB k = x) : whatK x = k := by
  subst e
  obtain rfl | rfl | rfl | rfl | rfl : k = 1 ∨ k = 2 ∨ k = 3 ∨ k = 4 ∨ k = 5 := by omega
  all_goals decide
theorem whatK_none {x : ByteArray} (h : ∀ j, 1 ≤ j → j < 6 → rWhatB j ≠ x) : whatK x = 0 := by
  have h1 : x ≠ wCount := fun e => h 1 (by omega) (by omega) (by rw [e]; rfl)
  have h2 : x ≠ wLeast := fun e => h 2 (by omega) (by omega) (by rw [e]; rfl)
  have h3 : x ≠ wMost := fun e => h 3 (by omega) (by omega) (by rw [e]; rfl)
  have h4 : x ≠ wSum := fun e => h 4 (by omega) (by omega) (by rw [e]; rfl)
  have h5 : x ≠ wMean := fun e => h 5 (by omega) (by omega) (by rw [e]; rfl)
  unfold whatK
  rw [if_neg h1, if_neg h2, if_neg h3, if_neg h4, if_neg h5]

end Go.Proofs.YtbiedfkmmcaplaaGreatDoor

namespace Go.Proofs.YtbiedfkmmcaplaaGreatDoor
open Go.RowKit
attribute [local go_sem] Oper.semAt_some

theorem askK_of {x : ByteArray} {k : Nat} (h1 : 1 ≤ k) (h7 : k ≤ 7) (e : rWhatB k = x) : askK x = k := by
  subst e
  obtain rfl | rfl | rfl | rfl | rfl | rfl | rfl : k = 1 ∨ k = 2 ∨ k = 3 ∨ k = 4 ∨ k = 5 ∨ k = 6 ∨ k = 7 := by omega
  all_goals decide
theorem askK_none {x : ByteArray} (h : ∀ j, 1 ≤ j → j < 8 → rWhatB j ≠ x) : askK x = 0 := by
  have h1 : x ≠ wCount := fun e => h 1 (by omega) (by omega) (by rw [e]; rfl)
  have h2 : x ≠ wLeast := fun e => h 2 (by omega) (by omega) (by rw [e]; rfl)
  have h3 : x ≠ wMost := fun e => h 3 (by omega) (by omega) (by rw [e]; rfl)
  have h4 : x ≠ wSum := fun e => h 4 (by omega) (by omega) (by rw [e]; rfl)
  have h5 : x ≠ wMean := fun e => h 5 (by omega) (by omega) (by rw [e]; rfl)
  have h6 : x ≠ wAt := fun e => h 6 (by omega) (by omega) (by rw [e]; rfl)
  have h7 : x ≠ wScan := fun e => h 7 (by omega) (by omega) (by rw [e]; rfl)
  unfold askK
  rw [if_neg h1, if_neg h2, if_neg h3, if_neg h4, if_neg h5, if_neg h6, if_neg h7]
theorem wpList_storeI {ops : Array Oper} {rest : List Oper} {o : Oper} {a : Act} {w : World} {Q : Exit → Act → World → Prop} (hgd : o.guard = none) (t : TypeId) (p x : Operand)
    (ho : o.op = .store t p x) (g i : Nat) (T : TypeId) (old : Array Value) (kd : IntKind) (z : Int) (hp : a.eval p = .pointer (some ⟨g, i, none⟩)) (hx : a.eval x = .int kd z)
    (hg : w.heap[g]? = some (.cells old T (0, 0))) (hi : i < old.size) (hz : ∀ w, (sizeOf t).run Tryz.prog w = .ok 1 w)
    (h : wpList Tryz.prog ops Q rest (a.put o.dst undef) (setRow w g (old.setIfInBounds i (.int kd z)))) : wpList Tryz.prog ops Q (o :: rest) a w := by
  have hrun : (Instr.storeAt t (.pointer (some ⟨g, i, none⟩)) (.int kd z)).run Tryz.prog w = .ok () (w.setCell ⟨g, i, none⟩ (.int kd z)) := by
    obtain ⟨z1, z2, z3⟩ := rcell hg
    have e1 : w.cell? ⟨g, i, none⟩ = some old[i] := by rw [z1]; simp [hi]
    have e2 := z2 i
    simp [Instr.storeAt, Instr.sureAddr, storeVar, hz, storeCells, go_sem, e1, e2]
  refine wpList_plain hgd fun _ hK => ?_
  unfold Oper.wp execOp
  simp only [ho, hp, hx, Sem.run_bind, Sem.run_pure, Result.andThen_ok, hrun]
  rw [setRow_of_setCell hg _ rfl]
  exact hK _ _ h

end Go.Proofs.YtbiedfkmmcaplaaGreatDoor

namespace Go.Proofs.YtbiedfkmmcaplaaGreatDoor
open Go.RowKit
attribute [local go_sem] Oper.semAt_some

theorem Abs.step_late {P : Program} {l : List Oper} {C : Abs.Cls} {Q : Act → Abs.St → Prop} {rest : List Nat} {i : Nat} {o : Oper} {a : Act} {s : Abs.St} (ho : l[i]? = some o) (hw : Region.wanted o (yielded l.toArray a.tmps) = true) {v : Value}
    (h1 : ∀ w, C.J w → (execOp a.eval o).run P w = .ok (.value v) w) (h2 : ∀ K : Act → Abs.St → Prop, (∀ a s, Abs.wpOrd P l.toArray C Q rest a s → K a s) → K (a.put o.dst v) s) : Abs.wpOrd P l.toArray C Q (i :: rest) a s :=
  Abs.step_does ho (.inl ⟨v, .inr ⟨hw, .inl h1⟩, h2 _ (fun _ _ h => h)⟩)
theorem late_kp {W w0 : World} {k : Nat} {cs : Array Value} {t : TypeId} (h : (Abs.cls W (fun _ => False)).J w0) (hc : W.heap[k]? = some (.cells cs t (0, 0))) : w0.heap[k]? = some (.cells cs t (0, 0)) :=
  (h.2 k (Array.getElem?_eq_some_iff.1 hc).1 (fun h => h)).trans hc
theorem late_set {W w0 : World} {g : Nat} (h : (Abs.cls W (fun _ => False)).J w0) (hg : W.heap.size ≤ g) (cs : Array Value) : (Abs.cls W (fun _ => False)).J (setRow w0 g cs) :=
  ⟨Nat.le_trans h.1 (setRow_below (Below.refl g w0) (Nat.le_refl _) cs).size, fun k hk _ => (setRow_other cs (by omega)).trans (h.2 k hk (fun h => h))⟩
theorem fin1 {base w0 w1 : World} {g : Nat} {t : TypeId} {cs cs' : Array Value} (hI : Below base.heap.size base w0) (hg : base.heap.size ≤ g) (hF : w0.heap[g]? = some (.cells cs t (0, 0))) (hT : setRow w0 g cs' = w1) :
    Below base.heap.size base w1 ∧ w1.heap[g]? = some (.cells cs' t (0, 0)) := by
  subst hT
  exact ⟨setRow_below hI hg cs', setRow_same hF⟩
theorem exec_storeX {ρ : Operand → Value} {o : Oper} {t : TypeId} {p x : Operand} {g : Nat} {T : TypeId} {old new : Array Value} {w : World} (ho : o.op = .store t p x) (hp : ρ p = .pointer (some ⟨g, 0, none⟩)) (hx : ρ x = .agg new)
    (hg : w.heap[g]? = some (.cells old T (0, 0))) (hi : (Tryz.prog.info? t).map (·.size) = some new.size) (hs : old.size = new.size) (h1 : new.all (·.oneCell') = true) : (execOp ρ o).run Tryz.prog w = .ok .skip (setRow w g new) := by
  unfold execOp
  simp only [ho, hp, hx, Instr.storeAt, Instr.sureAddr, Sem.run_bind, Sem.run_pure, Result.andThen_ok]
  rw [run_storeVar_row w g T t old new hg hi hs h1, setRow_is]
  rfl

theorem ptsV_len : ∀ ps : List (Int × Int), (ptsV ps).length = 2 * ps.length
  | [] => rfl
  | p :: ps => by simp only [ptsV, List.length_cons, ptsV_len ps]; omega
theorem ptsV_get : ∀ (ps : List (Int × Int)) (j : Nat) (h : j < ps.length), (ptsV ps)[2 * j]? = some (.int .i64 ps[j].1) ∧ (ptsV ps)[2 * j + 1]? = some (.int .i64 ps[j].2)
  | [], j, h => by simp at h
  | p :: ps, 0, _ => ⟨rfl, rfl⟩
  | p :: ps, j + 1, h => by
    have ih := ptsV_get ps j (by simpa using h)
    rw [show 2 * (j + 1) = 2 * j + 1 + 1 by omega]
    exact ih
theorem pts_cells {w w0 : World} {ad : Addr} {ps : List (Int × Int)} (h : InV w (some ad) (ptsV ps)) (hb : Below w.heap.size w w0) (j : Nat) (hj : j < ps.length) :
    w0.cell? (ad.add (j * 2)) = some (.int .i64 ps[j].1) ∧ w0.cell? { block := (ad.add (j * 2)).block, off := (ad.add (j * 2)).off + 1 } = some (.int .i64 ps[j].2) := by
  have hl := ptsV_len ps
  obtain ⟨ad', e, -, h2⟩ := (h.below hb) (by omega)
  obtain rfl : ad = ad' := Option.some.inj e
  obtain ⟨g0, g1⟩ := ptsV_get ps j hj
  have q0 := h2 (2 * j) (by omega)
  have q1 := h2 (2 * j + 1) (by omega)
  rw [← List.getElem?_eq_getElem, g0] at q0
  rw [← List.getElem?_eq_getElem, g1] at q1
  have e1 : (ad.add (j * 2)).add 1 = ad.add (j * 2 + 1) := Go.Deep.add_add _ _ _
  rw [Nat.mul_comm 2 j] at q0 q1
  rw [← e1] at q1
  exact ⟨q0, q1⟩
end Go.Proofs.YtbiedfkmmcaplaaGreatDoor

namespace Go.Proofs.YtbiedfkmmcaplaaGreatDoor
open Go.RowKit
attribute [local go_sem] Oper.semAt_some

theorem InK.inV {w : World} {X : Option Addr} {n k : Nat} {xs : List Value} (h : InK w X n k xs) : InV w X xs := fun h0 => by
  have hl := h.1
  have hn : 0 < n := by
    rcases Nat.eq_zero_or_pos n with e | e
    · subst e; rw [Nat.zero_mul] at hl; omega
    · exact e
  obtain ⟨ad, e, h1, h2⟩ := h.2 hn
  exact ⟨ad, e, h1, fun i hi => by rw [h2 i (by omega), List.getElem?_eq_getElem hi]⟩
theorem wpList_want {P : Program} {ops : Array Oper} {Q : Exit → Act → World → Prop} {a : Act} {w : World} {rest : List Oper} {o : Oper} (hw : Region.wanted o (yielded ops a.tmps) = true)
    (h : ∀ K : Act → World → Prop, (∀ a w, wpList P ops Q rest a w → K a w) → o.wp P a w K Q) : wpList P ops Q (o :: rest) a w :=
  wpList_step fun K hK => by rw [if_pos hw]; exact h K hK
theorem wpList_loadG {ops : Array Oper} {rest : List Oper} {o : Oper} {a : Act} {w : World} {Q : Exit → Act → World → Prop} (hgd : Region.wanted o (yielded ops a.tmps) = true) (t : TypeId) (p : Operand)
    (ho : o.op = .load t p) (g : Nat) (T : TypeId) (cs : Array Value) (hp : a.eval p = .pointer (some ⟨g, 0, none⟩))
    (hg : w.heap[g]? = some (.cells cs T (0, 0))) (d : TypeDesc) (hd : d.isRow = true) (hu : Tryz.prog.underlying t = some d) (hi : (Tryz.prog.info? t).map (·.size) = some cs.size)
    (h : wpList Tryz.prog ops Q rest (a.put o.dst (.agg cs)) w) : wpList Tryz.prog ops Q (o :: rest) a w := by
  refine wpList_want hgd fun _ hK => ?_
  unfold Oper.wp execOp
  simp only [ho, hp, Instr.loadAt, Instr.sureAddr, Sem.run_bind, Sem.run_pure, Result.andThen_ok]
  rw [run_loadVar_row w g T t cs (0, 0) d hg hu (by cases d <;> first | rfl | cases hd) hi]
  exact hK _ _ h
end Go.Proofs.YtbiedfkmmcaplaaGreatDoor
