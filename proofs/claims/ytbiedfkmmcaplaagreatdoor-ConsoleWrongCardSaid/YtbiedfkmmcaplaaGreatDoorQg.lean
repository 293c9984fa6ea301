/- The console's laws at this program: a line's command has just that line (plain). -/
import Derived.Test.YtbiedfkmmcaplaaGreatDoorQd
import Derived.Test.YtbiedfkmmcaplaaGreatDoorPz
import Derived.Lib.ParseIntBTie
import Derived.Lib.IndexMore
set_option linter.all false
namespace Go.Proofs.YtbiedfkmmcaplaaGreatDoor
open Go.RowKit

theorem num_back {s : ByteArray} {n : Int} (h : numW s = some n) : itoaB n = s ∧ i64In n := by
  unfold numW at h
  split at h
  · rename_i v hv
    split at h
    · rename_i he
      injection h with h
      subst h
      have := Lib.parseIntB_bounds hv
      have e : ((2 ^ (64 - 1) : Nat) : Int) = 9223372036854775808 := by decide
      rw [e] at this
      exact ⟨he, by unfold i64In; omega⟩
    · cases h
  · cases h
theorem ints_back : ∀ {l : List ByteArray} {xs : List Int}, pInts l = some xs → xs.map itoaB = l ∧ ∀ x ∈ xs, i64In x
  | [], xs, h => by
    simp only [pInts, Option.some.injEq] at h
    subst h
    exact ⟨rfl, fun x hx => by cases hx⟩
  | s :: l, xs, h => by
    simp only [pInts] at h
    split at h
    · rename_i v hv
      split at h
      · rename_i ys hy
        injection h with h
        subst h
        obtain ⟨i1, i2⟩ := ints_back hy
        obtain ⟨n1, n2⟩ := num_back hv
        refine ⟨by rw [List.map_cons, i1, n1], fun x hx => ?_⟩
        rcases List.mem_cons.1 hx with rfl | hx
        · exact n2
        · exact i2 x hx
      · cases h
    · cases h
theorem pairs_flat : ∀ xs : List Int, xs.length % 2 = 0 → (pairs xs).flatMap (fun p => [itoaB p.1, itoaB p.2]) = xs.map itoaB
  | [], _ => rfl
  | [_], h => by simp at h
  | x :: y :: l, h => by
    have h' : l.length % 2 = 0 := by simp only [List.length_cons] at h; omega
    rw [pairs, List.flatMap_cons, pairs_flat l h']
    rfl
theorem pairs_in : ∀ xs : List Int, (∀ x ∈ xs, i64In x) → ∀ p ∈ pairs xs, i64In p.1 ∧ i64In p.2
  | [], _, p, hp => by cases hp
  | [_], _, p, hp => by cases hp
  | x :: y :: l, h, p, hp => by
    rw [pairs] at hp
    rcases List.mem_cons.1 hp with rfl | hp
    · exact ⟨h x (by simp), h y (by simp)⟩
    · exact pairs_in l (fun z hz => h z (by simp [hz])) p hp
theorem hexC_back {b : UInt8} {d : Nat} (h : hexD b = some d) : hexC d = b := by
  have key : ∀ n : Fin 256, ∀ d : Fin 16, hexD (UInt8.ofNat n.val) = some d.val → hexC d.val = UInt8.ofNat n.val := by decide +kernel
  have h1 := (hexD_lt h).1
  have := key ⟨b.toNat, b.toNat_lt⟩ ⟨d, h1⟩
  simpa using this (by simpa using h)
theorem hexW_app : ∀ (l r : List UInt8) (a : Nat), hexW (l ++ r) a = (hexW l a).bind (hexW r)
  | [], r, a => rfl
  | b :: l, r, a => by
    simp only [List.cons_append, hexW]
    cases hexD b with
    | none => rfl
    | some d => exact hexW_app l r _
theorem hexF_back : ∀ (k : Nat) (l : List UInt8) (n : Nat), l.length = k → hexW l 0 = some n → hexF k n = l ∧ n < 16 ^ k
  | 0, l, n, hl, h => by
    obtain rfl := List.eq_nil_of_length_eq_zero hl
    simp only [hexW, Option.some.injEq] at h
    subst h
    exact ⟨rfl, by decide⟩
  | k + 1, l, n, hl, h => by
    have hne : l ≠ [] := by rintro rfl; simp at hl
    have hd := List.dropLast_concat_getLast hne
    have hlen : l.dropLast.length = k := by rw [List.length_dropLast]; omega
    rw [← hd, hexW_app] at h
    cases hm : hexW l.dropLast 0 with
    | none => rw [hm] at h; cases h
    | some m =>
      rw [hm] at h
      simp only [Option.bind_some, hexW] at h
      split at h
      · rename_i d hdd
        injection h with h
        obtain ⟨i1, i2⟩ := hexF_back k l.dropLast m hlen hm
        have hd16 := (hexD_lt hdd).1
        have e1 : n / 16 = m := by omega
        have e2 : n % 16 = d := by omega
        rw [hexF, e1, e2, i1, hexC_back hdd]
        refine ⟨hd, ?_⟩
        rw [Nat.pow_succ]
        omega
      · cases h
theorem hex_back {b : ByteArray} {n : Nat} (hb : b.size = 16) (h : hexW b.data.toList 0 = some n) : hexB n = b ∧ n < 18446744073709551616 := by
  obtain ⟨h1, h2⟩ := hexF_back 16 b.data.toList n (by rw [← hb]; rfl) h
  exact ⟨by unfold hexB; rw [h1], by simpa using h2⟩
theorem whatK_back {x : ByteArray} (h : 0 < whatK x) : rWhatB (whatK x) = x ∧ whatK x ≤ 5 := by
  by_cases e : ∃ j, 1 ≤ j ∧ j < 6 ∧ rWhatB j = x
  · obtain ⟨j, j1, j2, e⟩ := e
    rw [whatK_of j1 (by omega) e]
    exact ⟨e, by omega⟩
  · rw [whatK_none (fun j j1 j2 e2 => e ⟨j, j1, j2, e2⟩)] at h
    omega
theorem askK_back {x : ByteArray} (h : 0 < askK x) : rWhatB (askK x) = x ∧ askK x ≤ 7 := by
  by_cases e : ∃ j, 1 ≤ j ∧ j < 8 ∧ rWhatB j = x
  · obtain ⟨j, j1, j2, e⟩ := e
    rw [askK_of j1 (by omega) e]
    exact ⟨e, by omega⟩
  · rw [askK_none (fun j j1 j2 e2 => e ⟨j, j1, j2, e2⟩)] at h
    omega
theorem ze : (⟨#[]⟩ : ByteArray).size ≤ 1000 := by decide
theorem zb : (0 : Int) ≤ 0 ∧ (0 : Int) < 18446744073709551616 := by decide
theorem z0 : i64In 0 := by unfold i64In; omega

structure Read (c : Cm) (ws : List ByteArray) : Prop where
  ok : CmOK c
  words : cWords c = ws
  nm : c.nm.size ≤ 1000
  qn : c.qn.size ≤ 1000
  mn : c.mn.size ≤ 1000
  ml : c.masks.length ≤ 300
  pl : c.pts.length ≤ 20
theorem named_back {h nm : ByteArray} {r : List ByteArray} {xs : List Int} {c : Cm} (hn : nm.size ≤ 40) (hx : pInts r = some xs) (hc : rNamed h nm xs = some c) : Read c (h :: nm :: r) := by
  obtain ⟨hm, hi⟩ := ints_back hx
  subst hm
  clear hx
  unfold rNamed at hc
  by_cases ha : 0 < askK h
  · rw [if_pos ha] at hc
    obtain ⟨a1, a2⟩ := askK_back ha
    by_cases h6 : askK h = 6
    · rw [if_pos h6] at hc
      rw [h6] at a1
      match xs, hi, hc with
      | [a], hi, hc =>
        injection hc with hc
        subst hc
        have ia := hi a (by simp)
        refine ⟨?_, ?_, ze, by show nm.size ≤ 1000; omega, ze, Nat.zero_le _, Nat.zero_le _⟩
        · constructor <;> first | exact z0 | exact ia | (intro x hx; cases hx) | exact zb | exact Nat.zero_le _
        · rw [← a1]; rfl
    · rw [if_neg h6] at hc
      match xs, hi, hc with
      | [a, b], hi, hc =>
        injection hc with hc
        subst hc
        have ia := hi a (by simp)
        have ib := hi b (by simp)
        refine ⟨?_, ?_, ze, by show nm.size ≤ 1000; omega, ze, Nat.zero_le _, Nat.zero_le _⟩
        · constructor <;> first | exact z0 | exact ia | exact ib | (intro x hx; cases hx) | exact zb | exact Nat.zero_le _
        · have e : cWords { ok := 5, qk := (askK h : Int), qn := nm, qa := a, qb := b } = cAsk (askK h : Int) nm a b 0 0 := rfl
          rw [e]
          unfold cAsk
          rw [if_neg (by omega), if_neg (by omega), if_neg (by omega), Int.toNat_natCast, a1]
          rfl
  · rw [if_neg ha] at hc
    by_cases h1 : h = wCreate
    · rw [if_pos h1] at hc
      subst h1
      match xs, hi, hc with
      | [a, b], hi, hc =>
        injection hc with hc
        subst hc
        have ia := hi a (by simp)
        have ib := hi b (by simp)
        refine ⟨?_, rfl, ze, ze, by show nm.size ≤ 1000; omega, Nat.zero_le _, Nat.zero_le _⟩
        constructor <;> first | exact z0 | exact ia | exact ib | (intro x hx; cases hx) | exact zb | exact Nat.zero_le _
    rw [if_neg h1] at hc
    by_cases h2 : h = wDrop
    · rw [if_pos h2] at hc
      subst h2
      match xs, hi, hc with
      | [], hi, hc =>
        injection hc with hc
        subst hc
        refine ⟨?_, rfl, ze, ze, by show nm.size ≤ 1000; omega, Nat.zero_le _, Nat.zero_le _⟩
        constructor <;> first | exact z0 | (intro x hx; cases hx) | exact zb | exact Nat.zero_le _
    rw [if_neg h2] at hc
    by_cases h3 : h = wAppend
    · rw [if_pos h3] at hc
      subst h3
      split at hc
      · rename_i hl
        injection hc with hc
        subst hc
        have hp := pairs_in xs hi
        have hpl := pairs_len xs
        refine ⟨?_, ?_, ze, ze, by show nm.size ≤ 1000; omega, Nat.zero_le _, by show (pairs xs).length ≤ 20; omega⟩
        · constructor <;> first | exact z0 | exact hp | (intro x hx; cases hx) | exact zb | exact Nat.zero_le _ | (show (pairs xs).length ≤ 1000; omega)
        · have e : cWords { ok := 1, mkd := 3, mn := nm, pts := pairs xs } = [wAppend, nm] ++ (pairs xs).flatMap (fun p => [itoaB p.1, itoaB p.2]) := rfl
          rw [e, pairs_flat xs hl.2.2]
          rfl
      · cases hc
    rw [if_neg h3] at hc
    by_cases h4 : h = wRetain
    · rw [if_pos h4] at hc
      subst h4
      match xs, hi, hc with
      | [a], hi, hc =>
        injection hc with hc
        subst hc
        have ia := hi a (by simp)
        refine ⟨?_, rfl, ze, ze, by show nm.size ≤ 1000; omega, Nat.zero_le _, Nat.zero_le _⟩
        constructor <;> first | exact z0 | exact ia | (intro x hx; cases hx) | exact zb | exact Nat.zero_le _
    rw [if_neg h4] at hc
    cases hc
theorem rCmd_back {ws : List ByteArray} {c : Cm} (hc : rCmd ws = some c) : Read c ws := by
  match ws, hc with
  | h :: l, hc =>
    simp only [rCmd] at hc
    by_cases h1 : h = wSync
    · rw [if_pos h1] at hc
      split at hc
      · rename_i hl
        injection hc with hc
        subst hc hl h1
        refine ⟨?_, rfl, ze, ze, ze, Nat.zero_le _, Nat.zero_le _⟩
        constructor <;> first | exact z0 | (intro x hx; cases hx) | exact zb | exact Nat.zero_le _
      · cases hc
    rw [if_neg h1] at hc
    by_cases h2 : h = wFlush
    · rw [if_pos h2] at hc
      split at hc
      · rename_i hl
        injection hc with hc
        subst hc hl h2
        refine ⟨?_, rfl, ze, ze, ze, Nat.zero_le _, Nat.zero_le _⟩
        constructor <;> first | exact z0 | (intro x hx; cases hx) | exact zb | exact Nat.zero_le _
      · cases hc
    rw [if_neg h2] at hc
    by_cases h3 : h = wCompact
    · rw [if_pos h3] at hc
      split at hc
      · rename_i hl
        injection hc with hc
        subst hc hl h3
        refine ⟨?_, rfl, ze, ze, ze, Nat.zero_le _, Nat.zero_le _⟩
        constructor <;> first | exact z0 | (intro x hx; cases hx) | exact zb | exact Nat.zero_le _
      · cases hc
    rw [if_neg h3] at hc
    by_cases h4 : h = wPower
    · rw [if_pos h4] at hc
      split at hc
      · rename_i n hp
        injection hc with hc
        obtain ⟨hm, hi⟩ := ints_back hp
        subst hc h4
        rw [← hm]
        have ia := hi n (by simp)
        refine ⟨?_, rfl, ze, ze, ze, Nat.zero_le _, Nat.zero_le _⟩
        constructor <;> first | exact z0 | exact ia | (intro x hx; cases hx) | exact zb | exact Nat.zero_le _
      · cases hc
    rw [if_neg h4] at hc
    by_cases h5 : h = wCrash
    · rw [if_pos h5] at hc
      split at hc
      · rename_i xs hp
        split at hc
        · rename_i hl
          injection hc with hc
          obtain ⟨hm, hi⟩ := ints_back hp
          subst hc h5
          rw [← hm]
          refine ⟨?_, rfl, ze, ze, ze, hl, Nat.zero_le _⟩
          constructor <;> first | exact z0 | exact hi | (intro x hx; cases hx) | exact zb | exact Nat.zero_le _ | (show xs.length ≤ 1000; omega)
        · cases hc
      · cases hc
    rw [if_neg h5] at hc
    cases l with
    | nil => cases hc
    | cons nm r =>
      simp only at hc
      by_cases hn' : ¬ nm.size ≤ 40
      · rw [if_neg hn'] at hc
        cases hc
      have hn := Classical.not_not.1 hn'
      rw [if_pos hn] at hc
      by_cases h6 : h = wRead
      · rw [if_pos h6] at hc
        subst h6
        rcases r with _ | ⟨a, _ | ⟨b, _ | ⟨d, r⟩⟩⟩
        · exact absurd hc (by simp [rRead])
        · exact absurd hc (by simp [rRead])
        · simp only [rRead] at hc
          cases ht : numW a with
          | none => rw [ht] at hc; exact absurd hc (by simp)
          | some t =>
            by_cases hbs : b.size = 16
            · rw [if_pos hbs, ht] at hc
              cases hb : hexW b.data.toList 0 with
              | none => rw [hb] at hc; exact absurd hc (by simp)
              | some n =>
                rw [hb] at hc
                injection hc with hc
                subst hc
                obtain ⟨n1, n2⟩ := num_back ht
                obtain ⟨x1, x2⟩ := hex_back hbs hb
                refine ⟨?_, ?_, by show nm.size ≤ 1000; omega, ze, ze, Nat.zero_le _, Nat.zero_le _⟩
                · constructor <;> first | exact z0 | exact n2 | (intro x hx; cases hx) | exact ⟨by show (0 : Int) ≤ (n : Int); omega, by show (n : Int) < 18446744073709551616; omega⟩ | exact Nat.zero_le _
                · have e : cWords { ok := 6, nm := nm, t := t, bits := (n : Int) } = [wRead, nm, itoaB t, hexB (n : Int).toNat] := rfl
                  rw [e, Int.toNat_natCast, n1, x1]
            · rw [if_neg hbs, ht] at hc
              exact absurd hc (by simp)
        · exact absurd hc (by simp [rRead])
      rw [if_neg h6] at hc
      by_cases h7 : h = wBuckets
      · rw [if_pos h7] at hc
        subst h7
        rcases r with _ | ⟨x, _ | ⟨a, _ | ⟨b, _ | ⟨d, _ | ⟨f, r⟩⟩⟩⟩⟩
        · exact absurd hc (by simp [rBuckets])
        · exact absurd hc (by simp [rBuckets])
        · exact absurd hc (by simp [rBuckets])
        · exact absurd hc (by simp [rBuckets])
        · simp only [rBuckets] at hc
          cases hp : pInts [a, b, d] with
          | none => rw [hp] at hc; exact absurd hc (by simp)
          | some xs =>
            rw [hp] at hc
            have hl3 := pInts_len hp
            rcases xs with _ | ⟨u, _ | ⟨v, _ | ⟨n, _ | ⟨q, xs⟩⟩⟩⟩
            · simp at hl3
            · simp at hl3
            · simp at hl3
            · simp only at hc
              by_cases hk : 0 < whatK x
              · rw [if_pos hk] at hc
                injection hc with hc
                subst hc
                obtain ⟨hm, hi⟩ := ints_back hp
                obtain ⟨k1, k2⟩ := whatK_back hk
                have iu := hi u (by simp)
                have iv := hi v (by simp)
                have il := hi n (by simp)
                refine ⟨?_, ?_, ze, by show nm.size ≤ 1000; omega, ze, Nat.zero_le _, Nat.zero_le _⟩
                · constructor <;> first | exact z0 | exact iu | exact iv | exact il | (intro x hx; cases hx) | exact zb | exact Nat.zero_le _
                · have e : cWords { ok := 5, qk := 8, qn := nm, qa := u, qb := v, qw := (whatK x : Int), qN := n } = cAsk 8 nm u v (whatK x : Int) n := rfl
                  rw [e]
                  unfold cAsk
                  rw [if_neg (by omega), if_neg (by omega), if_pos rfl, if_neg (by omega), Int.toNat_natCast, k1]
                  simp only [List.map_cons, List.map_nil] at hm
                  injection hm with m1 m2
                  injection m2 with m2 m3
                  injection m3 with m3 m4
                  rw [m1, m2, m3]
                  rfl
              · rw [if_neg hk] at hc
                cases hc
            · simp at hl3
        · exact absurd hc (by simp [rBuckets])
      rw [if_neg h7] at hc
      cases hx : pInts r with
      | none => rw [hx] at hc; exact absurd hc (by simp)
      | some xs =>
        rw [hx] at hc
        exact named_back hn hx hc

theorem spl_ne : ∀ (l acc : List UInt8), spl acc l ≠ []
  | [], acc => by simp [spl]
  | b :: r, acc => by
    unfold spl
    split
    · simp
    · exact spl_ne r _
theorem spl_join : ∀ (l acc : List UInt8), Lib.join (spl acc l) [32] = acc ++ l
  | [], acc => by simp [spl, Lib.join, List.intercalate]
  | b :: r, acc => by
    unfold spl
    split
    · rename_i hb
      have ih := spl_join r []
      cases hs : spl [] r with
      | nil => exact absurd hs (spl_ne r [])
      | cons p q =>
        rw [hs] at ih
        have e : Lib.join (acc :: p :: q) [32] = acc ++ [32] ++ Lib.join (p :: q) [32] := by simp [Lib.join, List.intercalate, List.intersperse]
        rw [e, ih, hb]
        simp
    · rw [spl_join r (acc ++ [b])]
      simp
theorem spl_in : ∀ (l r acc : List UInt8) (p : List UInt8), p ∈ spl [] r → p ∈ spl acc (l ++ 32 :: r)
  | [], r, acc, p, h => by
    rw [List.nil_append]
    unfold spl
    rw [if_pos rfl]
    exact List.mem_cons_of_mem _ h
  | b :: l, r, acc, p, h => by
    rw [List.cons_append]
    unfold spl
    split
    · exact List.mem_cons_of_mem _ (spl_in l r [] p h)
    · exact spl_in l r _ p h
theorem index_in {l sub : List UInt8} (h : 0 ≤ Lib.index l sub) : ∃ pre post, l = pre ++ sub ++ post := by
  rcases Lib.index_spec l sub with ⟨h1, _⟩ | ⟨i, h1, h2, h3, _⟩
  · omega
  · unfold Lib.occAt at h3
    obtain ⟨post, e⟩ := List.isPrefixOf_iff_prefix.1 h3
    exact ⟨l.take i, post, by rw [List.append_assoc, e, List.take_append_drop]⟩
theorem line_back {s : ByteArray} {c : Cm} (h : pLine s = some c) : joinB sBlank (cWords c) = s ∧ Read c (cWords c) ∧ Lib.contains s.data.toList [10] = false ∧ Lib.contains s.data.toList [32, 32] = false ∧ Lib.hasPrefix s.data.toList [32] = false ∧ Lib.hasSuffix s.data.toList [32] = false := by
  rw [← rLine_is] at h
  unfold rLine at h
  split at h
  · rename_i ws hw
    have hr := rCmd_back h
    rw [rW_is] at hw
    split at hw
    · rename_i hp
      obtain ⟨p1, p2⟩ := hp
      injection hw with hw
      rw [List.nil_append] at hw
      have hE : ∀ pre post, s.data.toList = pre ++ 32 :: post → [] ∈ spl [] post → False := fun pre post e hin => by
        refine p2 [] ?_ rfl
        show [] ∈ spl [] s.data.toList
        rw [e]
        exact spl_in pre post [] [] hin
      refine ⟨?_, by rw [hr.words]; exact hr, ?_, ?_, ?_, ?_⟩
      · rw [hr.words, ← hw]
        unfold joinB
        rw [List.map_map]
        have e : (spl (⟨#[]⟩ : ByteArray).data.toList s.data.toList).map ((fun x : ByteArray => x.data.toList) ∘ toB) = spl [] s.data.toList := by
          have : ((fun x : ByteArray => x.data.toList) ∘ toB) = id := by funext x; simp [toB]
          rw [this, List.map_id]
        rw [e, show sBlank.data.toList = [32] from rfl, spl_join, List.nil_append]
      · unfold Lib.contains
        rw [decide_eq_false_iff_not]
        intro h0
        obtain ⟨pre, post, e⟩ := index_in h0
        have hb := List.all_eq_true.1 p1 10 (by rw [e]; simp)
        revert hb
        decide
      · unfold Lib.contains
        rw [decide_eq_false_iff_not]
        intro h0
        obtain ⟨pre, post, e⟩ := index_in h0
        exact hE pre (32 :: post) (by rw [e]; simp) (by rw [spl]; simp)
      · rw [Bool.eq_false_iff]
        intro h0
        obtain ⟨post, e⟩ := List.isPrefixOf_iff_prefix.1 h0
        refine p2 [] ?_ rfl
        show [] ∈ spl [] s.data.toList
        rw [← e]
        show [] ∈ spl [] (32 :: post)
        rw [spl]; simp
      · rw [Bool.eq_false_iff]
        intro h0
        obtain ⟨pre, e⟩ := List.isSuffixOf_iff_suffix.1 h0
        exact hE pre [] e.symm (by simp [spl])
    · cases hw
  · cases h
end Go.Proofs.YtbiedfkmmcaplaaGreatDoor
