/- The package vary at this program: plain, folded, unfolded; the iterator that tells a number's bytes. The package vary at this program: gets, GetU, Get. The package vary at this program: puts, PutU, Put. -/
import Derived.Test.YtmpfbkeamihjbaaGreatQ2
import Derived.Test.YtmpfbkeamihjbaaGreatSeqB
import Derived.Test.YtmpfbkeamihjbaaGreatEnds2
import Derived.ScopeJumps
import Derived.Laws.CopyOwn
import Derived.Laws.MakeOwn
set_option linter.unusedSimpArgs false
set_option linter.unusedVariables false
namespace Go.Proofs.YtmpfbkeamihjbaaGreat
open Go.RowKit
attribute [local go_sem] Oper.semAt_some

theorem vary_plain (n : Int) (w : World) : Calls Tryz.prog 77 #[.int .u64 n] w fun e w' => e = .returned (.int .u64 n) ∧ w = w' := by
  go_enter Tryz.func77, Tryz.ntmps77
  go_wp2
  go_ret
  exact ⟨rfl, rfl⟩
set_option maxRecDepth 100000 in
theorem vary_folded (n : Int) (h0 : -9223372036854775808 ≤ n) (h1 : n ≤ 9223372036854775807) (w : World) : Calls Tryz.prog 79 #[.int .i64 n] w fun e w' => e = .returned (.int .u64 (fold n)) ∧ w = w' := by
  by_cases h : 0 ≤ n
  · have E := hide (fold_pos n h h1)
    go_enter Tryz.func79, Tryz.ntmps79
    go_wp2
    go_ret
    exact ⟨by rw [← E.out]; rfl, rfl⟩
  · have E := hide (fold_neg n h h0)
    go_enter Tryz.func79, Tryz.ntmps79
    go_wp2
    go_ret
    exact ⟨by rw [← E.out]; rfl, rfl⟩
theorem vary_unfolded (n : Nat) (h : n < 18446744073709551616) (w : World) : Calls Tryz.prog 132 #[.int .u64 n] w fun e w' => e = .returned (.int .i64 (unfold' n)) ∧ w = w' := by
  have E := hide (unfold_bits n h)
  go_enter Tryz.func132, Tryz.ntmps132
  go_wp2
  go_ret
  exact ⟨by rw [← E.out]; rfl, rfl⟩

theorem vary_bytes (n : Int) (w : World) :
    Calls Tryz.prog 97 #[.int .u64 n] w fun e w' => e = .returned (.func (Fn.func 127) #[] #[.pointer (some ⟨w.heap.size, 0, none⟩)]) ∧ w' = w.alloc (.cells #[.int .u64 n] 138) := by
  go_enter Tryz.func97, Tryz.ntmps97
  go_wp2
  go_ret
  exact ⟨rfl, rfl⟩

/-- the number in the variable at a block -/
def numAt (Bs : Nat) (w : World) : Nat := match w.cell? ⟨Bs, 0, none⟩ with
  | some v => (intOf v).toNat
  | none => 0
theorem numAt_of {Bs : Nat} {n : Nat} {t : TypeId} {w : World} (h : w.heap[Bs]? = some (.cells #[.int .u64 (n : Int)] t (0, 0))) : numAt Bs w = n := by
  have := (rcell h).1 0
  simp at this
  unfold numAt
  rw [this]
  simp [intOf]
def encY (x : Int) : Array Value := #[.int .u8 x]

set_option maxRecDepth 100000 in
set_option maxHeartbeats 2000000 in
theorem bytes_seq (Bs n : Nat) (hn : n < 18446744073709551616) (w : World) (hBs : w.heap[Bs]? = some (.cells #[.int .u64 (n : Int)] 138 (0, 0))) :
    SeqB Tryz.prog 127 #[.pointer (some ⟨Bs, 0, none⟩)] encY (fun _ => True) (fun xs => xs = ub n) (fun _ => True) 10 Bs w := by
  intro l' J Jx W hW hl' hJ hJx hJr hJs hY hJ0
  have hB := (hW.block _ (rcell hBs).2.2).trans hBs
  refine callsIn_of_wp Tryz.func127 rfl trivial ?_ rfl
  simp only [Tryz.ntmps127, List.size_toArray, List.length_cons, List.length_nil, Nat.reduceAdd, Nat.reduceSub, Array.replicate_succ, Array.replicate_zero, List.push_toArray, List.append_toArray, List.nil_append, List.cons_append]
  gi_wp2
  refine wpIn_wide.2 (wp_scope_straight ((wpIn_wide (n := 2)).1 ?_))
  gi_wp2_with fail
  refine wpIn_label ?_
  gi_wp2_with fail
  gi_loopw [3] (fun _ wr => ∃ (m : Nat) (pre : List Int), m < 18446744073709551616 ∧ wr.heap[Bs]? = some (.cells #[.int .u64 (m : Int)] 138 (0, 0)) ∧ Hid (pre ++ ub m = ub n) ∧ W.heap.size ≤ wr.heap.size ∧ J pre wr) (fun _ wr => numAt Bs wr)
  case atStart => exact ⟨n, [], hn, hB, hide rfl, Nat.le_refl _, hJ0⟩
  case round =>
    obtain ⟨m, pre, hm, hB', hp, hsz, hj⟩ := hrel
    have hlen : pre.length < 10 := by
      have e := congrArg List.length hp.out
      rw [List.length_append] at e
      have := ub_pos m
      have := ub_ten hn
      omega
    have ba := and127 m hm
    have hq : m % 128 < 128 := Nat.mod_lt _ (by decide)
    have bo : bits .or .u8 ((m : Int) % 128) 128 = (m : Int) % 128 + 128 := by simpa using or128 (m % 128) hq
    obtain ⟨zB1, zB2, zB3⟩ := rcell hB'
    have zB := zB1 0
    simp at zB
    by_cases hd : m < 128
    · have d0 : decide (0 < (m : Int) / 128) = false := by simp; omega
      have d1 : ((m : Int) / 128 == 0) = true := by simp; omega
      have hfin : pre ++ [(m : Int) % 128] = ub n := by
        have := hp.out
        rw [ub_low hd] at this
        rw [show (m : Int) % 128 = (m : Int) by omega]
        exact this
      have HF := hide hfin
      clear hfin
      gi_wp2_with fail
      rw [row1 hB']
      generalize hT4 : setRow wr _ _ = W4
      obtain ⟨hx4, hB4⟩ := fin_x (b0 _) hB' hT4
      have hj4 := hJs _ _ _ hj hx4
      have hYk := hY pre ((m : Int) % 128) _ hj4 (Nat.le_trans hsz hx4.size) hlen
      have ezl : encY ((m : Int) % 128) = #[.int .u8 ((m : Int) % 128)] := rfl
      rw [ezl] at hYk
      obtain ⟨fn, tmps, assign, body, hy, hRR⟩ := hYk
      clear ezl zB zB1 zB2 zB3
      go_simp
      refine hRR.mono ?_
      clear hRR hy
      rintro e W3 (⟨rfl, hj3, hu3, hbs3⟩ | ⟨rfl, hjx3⟩)
      · have hB3 := hbs3.trans hB4
        obtain ⟨zB1, zB2, zB3⟩ := rcell hB3
        have zB := zB1 0
        simp at zB
        gi_wp2
        simp only [Exit.noGoto]
        refine bodyPost_end (results_none rfl _ _ _) rfl ⟨⟨_, rfl⟩, .inl ⟨_, HF.out, hj3⟩⟩
      · gi_wp2
        simp only [Exit.noGoto]
        refine bodyPost_end (results_none rfl _ _ _) rfl ⟨⟨_, rfl⟩, .inr ⟨_, trivial, hjx3⟩⟩
    · have d0 : decide (0 < (m : Int) / 128) = true := by simp; omega
      have d1 : ((m : Int) / 128 == 0) = false := by simp; omega
      have hfin : (pre ++ [(m : Int) % 128 + 128]) ++ ub (m / 128) = ub n := by
        have := hp.out
        rw [ub_high (by omega)] at this
        rw [List.append_assoc, ← this]
        rfl
      have HF := hide hfin
      have hB0 : Hid (((m : Int) / 128) = ((m / 128 : Nat) : Int) ∧ m / 128 < 18446744073709551616 ∧ m / 128 < m) := hide (by omega)
      clear hfin
      gi_wp2_with fail
      rw [row1 hB']
      generalize hT4 : setRow wr _ _ = W4
      obtain ⟨hx4, hB4⟩ := fin_x (b0 _) hB' hT4
      have hj4 := hJs _ _ _ hj hx4
      have hYk := hY pre ((m : Int) % 128 + 128) _ hj4 (Nat.le_trans hsz hx4.size) hlen
      have ezl : encY ((m : Int) % 128 + 128) = #[.int .u8 ((m : Int) % 128 + 128)] := rfl
      rw [ezl] at hYk
      obtain ⟨fn, tmps, assign, body, hy, hRR⟩ := hYk
      clear ezl zB zB1 zB2 zB3
      go_simp
      refine hRR.mono ?_
      clear hRR hy
      rintro e W3 (⟨rfl, hj3, hu3, hbs3⟩ | ⟨rfl, hjx3⟩)
      · have hB3 := hbs3.trans hB4
        obtain ⟨zB1, zB2, zB3⟩ := rcell hB3
        have zB := zB1 0
        simp at zB
        gi_wp2
        go_roundw
        case rel => exact ⟨m / 128, _, hB0.out.2.1, by rw [← hB0.out.1]; exact hB3, HF, Nat.le_trans hsz (Nat.le_trans hx4.size hu3), hj3⟩
        case measure => rw [numAt_of (by rw [← hB0.out.1]; exact hB3), numAt_of hB']; exact hB0.out.2.2
      · gi_wp2
        simp only [Exit.noGoto]
        refine bodyPost_end (results_none rfl _ _ _) rfl ⟨⟨_, rfl⟩, .inr ⟨_, trivial, hjx3⟩⟩
end Go.Proofs.YtmpfbkeamihjbaaGreat

namespace Go.Proofs.YtmpfbkeamihjbaaGreat
open Go.RowKit
attribute [local go_sem] Oper.semAt_some

/-- bytes -/
def Byt (b : List Int) : Prop := ∀ x ∈ b, 0 ≤ x ∧ x < 256
theorem and127b (x : Int) (h0 : 0 ≤ x) (h1 : x < 256) : bits .and .u8 x 127 = x % 128 := by
  obtain ⟨n, rfl⟩ := Int.eq_ofNat_of_zero_le h0
  have e := u8_and_nat n 127 (by omega) (by decide)
  rw [show ((127 : Nat) : Int) = 127 from rfl] at e
  rw [e, show (127 : Nat) = 2 ^ 7 - 1 from rfl, Nat.and_two_pow_sub_one_eq_mod]
  omega
theorem b_drop {l : List Int} {k : Nat} (h : k < l.length) : l.drop k = l[k] :: l.drop (k + 1) := List.drop_eq_getElem_cons h

/-- what is got: the number, the place behind it, no error; or the error -/
def getPU (r : Except Int (Nat × Nat)) (e : Ending) : Prop :=
  match r with
  | .ok (N, nx) => e = .returned (.tuple #[.int .u64 (N : Int), .int .i64 (nx : Int), .int .i64 0])
  | .error x => e = .returned (.tuple #[.int .u64 0, .int .i64 0, .int .i64 x])
def getPS (r : Except Int (Int × Nat)) (e : Ending) : Prop :=
  match r with
  | .ok (n, nx) => e = .returned (.tuple #[.int .i64 n, .int .i64 (nx : Int), .int .i64 0])
  | .error x => e = .returned (.tuple #[.int .i64 0, .int .i64 0, .int .i64 x])
theorem wrap_u64' (n : Int) : IntKind.u64.wrap n = n % 18446744073709551616 := by simp [IntKind.wrap, IntKind.bits, IntKind.signed]
theorem pow7 (k : Nat) : (2 : Nat) ^ (7 * k) = 128 ^ k := by rw [Nat.pow_mul]
theorem acc_lt {acc k m : Nat} (ha : acc < 128 ^ k) (hm : m < 128) : acc + m * 128 ^ k < 128 ^ (k + 1) := by
  rw [Nat.pow_succ]
  have : m * 128 ^ k ≤ 127 * 128 ^ k := Nat.mul_le_mul_right _ (by omega)
  omega
theorem or_acc (acc k : Nat) (x : Int) (h0 : 0 ≤ x) (ha : acc < 128 ^ k) (hk : k ≤ 9) (h9 : k = 9 → x ≤ 1) :
    bits .or .u64 (acc : Int) (IntKind.u64.wrap (x % 128 * 2 ^ (7 * k))) = ((acc + (x % 128).toNat * 128 ^ k : Nat) : Int) := by
  obtain ⟨m, hm⟩ : ∃ m : Nat, x % 128 = m := ⟨(x % 128).toNat, by omega⟩
  have hm1 : m < 128 := by omega
  have hb : m * 128 ^ k < 18446744073709551616 := by
    by_cases e : k = 9
    · subst e
      have : m ≤ 1 := by have := h9 rfl; omega
      have : m * 128 ^ 9 ≤ 1 * 128 ^ 9 := Nat.mul_le_mul_right _ this
      have e2 : (128 : Nat) ^ 9 = 9223372036854775808 := by decide
      omega
    · have h1 : (128 : Nat) ^ k ≤ 128 ^ 8 := Nat.pow_le_pow_right (by decide) (by omega)
      have e2 : (128 : Nat) ^ 8 = 72057594037927936 := by decide
      have h2 : m * 128 ^ k ≤ 127 * 128 ^ k := Nat.mul_le_mul_right _ (by omega)
      omega
  have ha2 : acc < 18446744073709551616 := by
    have h1 : (128 : Nat) ^ k ≤ 128 ^ 9 := Nat.pow_le_pow_right (by decide) hk
    have e2 : (128 : Nat) ^ 9 = 9223372036854775808 := by decide
    omega
  have e1 : IntKind.u64.wrap (x % 128 * 2 ^ (7 * k)) = ((m * 128 ^ k : Nat) : Int) := by
    have : x % 128 * 2 ^ (7 * k) = ((m * 128 ^ k : Nat) : Int) := by
      rw [hm, ← pow7]
      push_cast
      rfl
    rw [this]
    rw [wrap_u64', Int.emod_eq_of_lt (by omega) (by omega)]
  rw [e1, u64_or_nat _ _ ha2 hb, hm, Int.toNat_natCast]
  have h3 := Nat.two_pow_add_eq_or_of_lt (show acc < 2 ^ (7 * k) by rw [pow7]; exact ha) m
  rw [pow7] at h3
  rw [Nat.or_comm, Nat.mul_comm m, ← h3]
  congr 1
  omega

theorem getU1 (n : Int) (w : World) : Calls Tryz.prog 109 #[.int .u64 n] w fun e w' => e = .returned (.int .u64 n) ∧ w = w' := by
  go_enter Tryz.func109, Tryz.ntmps109
  go_wp2
  go_ret
  exact ⟨rfl, rfl⟩

theorem gt_lt : ∀ (l : List Int) (k acc : Nat) (N m : Nat), Byt l → acc < 128 ^ k → k ≤ 9 → gt l k acc = .ok (N, m) → N < 18446744073709551616
  | [], _, _, _, _, _, _, _, h => by cases h
  | x :: r, k, acc, N, m, hb, ha, hk, h => by
    rw [gt] at h
    have hx := hb x (List.mem_cons_self ..)
    split at h
    · cases h
    · next h1 =>
      split at h
      · cases h
      · split at h
        · injection h with h
          injection h with h h2
          subst h
          by_cases e : k = 9
          · subst e
            have e2 : (128 : Nat) ^ 9 = 9223372036854775808 := by decide
            rw [e2] at ha ⊢
            have : (x % 128).toNat ≤ 1 := by omega
            have : (x % 128).toNat * 9223372036854775808 ≤ 1 * 9223372036854775808 := Nat.mul_le_mul_right _ this
            omega
          · have h3 := acc_lt ha (show (x % 128).toNat < 128 by omega)
            have h4 : (128 : Nat) ^ (k + 1) ≤ 128 ^ 9 := Nat.pow_le_pow_right (by decide) (by omega)
            have e2 : (128 : Nat) ^ 9 = 9223372036854775808 := by decide
            omega
        · next h5 =>
          have : k ≠ 9 := by intro e; exact h1 ⟨e, by omega⟩
          exact gt_lt r (k + 1) _ N m (fun y hy => hb y (List.mem_cons_of_mem _ hy)) (acc_lt ha (show (x % 128).toNat < 128 by omega)) (by omega) h
theorem gU_lt {b : List Int} {at' N nx : Nat} (hb : Byt b) (h : gU b at' = .ok (N, nx)) : N < 18446744073709551616 := by
  unfold gU at h
  cases e : gt (b.drop at') 0 0 with
  | error x => rw [e] at h; cases h
  | ok p =>
    obtain ⟨N', m⟩ := p
    rw [e] at h
    injection h with h
    injection h with h h2
    subst h
    exact gt_lt _ 0 0 _ _ (fun y hy => hb y (List.mem_of_mem_drop hy)) (by decide) (by decide) e

set_option maxRecDepth 100000 in
set_option maxHeartbeats 4000000 in
theorem vary_getsU (A : Option Addr) (c at' : Nat) (b : List Int) (hB : Byt b) (hat : at' ≤ b.length) (w : World) (hR : YR w A c b) :
    Calls Tryz.prog 108 #[.slice A b.length c, .int .i64 (at' : Int), .func (Fn.func 109) #[] #[]] w fun e w' => getPU (gU b at') e ∧ Below w.heap.size w w' := by
  have htop := hR.top
  have hcap := hR.cap
  have dat : decide ((at' : Int) < 0) = false := by simp
  have dal : decide ((b.length : Int) < (at' : Int)) = false := by simp; omega
  by_cases hlt0 : at' < b.length
  · obtain ⟨g, o, cur, rfl, hg, hc⟩ := hR.mem (by omega)
    have HC := hide hc
    have HB := hide hB
    clear hc hR hB
    have hcn : ¬ c = at' := by omega
    go_enter Tryz.func108, Tryz.ntmps108
    obtain ⟨zg_a, zg_b, lg0⟩ := rcell hg
    go_wp2_with fail
    refine wp_scope_straight ?_
    go_wp2_with fail
    refine wp_label ?_
    go_wp2_with fail
    go_loopw [10, 11, 12, 29] (fun vn ve vx vi wr => ∃ (k acc : Nat), vi = .int .i64 k ∧ vn = .int .u64 (acc : Int) ∧ ve = .int .i64 6 ∧ vx = .int .i64 ((at' + k : Nat) : Int) ∧ at' + k ≤ b.length ∧ k ≤ 9 ∧ Hid (acc < 128 ^ k) ∧ Hid (gt (b.drop (at' + k)) k acc = gt (b.drop at') 0 0) ∧ wr.heap[g]? = some (.cells cur 5 (0, 0)) ∧ Below w.heap.size w wr) (fun _ _ _ vi _ => b.length - (intOf vi).toNat)
    case atStart => exact ⟨0, 0, rfl, rfl, rfl, rfl, by omega, by omega, hide (by decide), hide rfl, (hg), (b0 w)⟩
    case round =>
      obtain ⟨k, acc, rfl, rfl, rfl, rfl, hk, hk9, hac, hgt, j1, hb⟩ := hrel
      by_cases hlt : at' + k < b.length
      · have q1 := HC.out (at' + k) hlt
        have hby := HB.out _ (List.getElem_mem hlt)
        have hg2 : Hid (∀ r, gt (b[at' + k] :: b.drop (at' + k + 1)) k acc = r → gt (b.drop at') 0 0 = r) := hide (fun r h => by rw [← hgt.out, b_drop hlt]; exact h)
        have hg3 : Hid (∀ acc2, gt (b[at' + k] :: b.drop (at' + k + 1)) k acc = gt (b.drop (at' + (k + 1))) (k + 1) acc2 → gt (b.drop (at' + (k + 1))) (k + 1) acc2 = gt (b.drop at') 0 0) := hide (fun acc2 h => by rw [← hgt.out, b_drop hlt]; exact h.symm)
        generalize b[at' + k] = x at *
        have ba := and127b x hby.1 hby.2
        have ea : o + at' + k = o + (at' + k) := by omega
        have q2 : cur[o + at' + k]? = some (.int .u8 x) := by rw [ea]; exact q1
        clear ea q1
        obtain ⟨zg_a, zg_b, lg1⟩ := rcell j1
        by_cases h9 : k = 9
        · subst h9
          by_cases hx1 : 1 < x
          · skip
            have d1 : decide (1 < x) = true := decide_eq_true hx1
            have hres : Hid (gU b at' = .error 7) := hide (by unfold gU; rw [hg2.out (.error 7) (by rw [gt, if_pos ⟨rfl, hx1⟩])])
            go_wp2
            try simp only [Exit.noGoto]
            go_ret3
            exact ⟨by rw [hres.out]; rfl, hb⟩
          · have d1 : decide (1 < x) = false := decide_eq_false hx1
            by_cases hx0 : x = 0
            · skip
              subst hx0
              have hres : Hid (gU b at' = .error 7) := hide (by unfold gU; rw [hg2.out (.error 7) (by rw [gt, if_neg (by omega), if_pos ⟨rfl, by omega⟩])])
              go_wp2
              try simp only [Exit.noGoto]
              go_ret3
              exact ⟨by rw [hres.out]; rfl, hb⟩
            · skip
              have d0 : (x == 0) = false := by simp [hx0]
              have dl : decide (x < 128) = true := by simp; omega
              have ho := or_acc acc 9 x hby.1 hac.out (by omega) (fun _ => by omega)
              rw [show (2 : Int) ^ (7 * 9) = 9223372036854775808 by decide] at ho
              have hres : Hid (gU b at' = .ok (acc + (x % 128).toNat * 128 ^ 9, at' + (9 + 1))) := hide (by unfold gU; rw [hg2.out (.ok (acc + (x % 128).toNat * 128 ^ 9, 9 + 1)) (by rw [gt, if_neg (by omega), if_neg (by omega), if_pos (by omega)])])
              have hrl := acc_lt hac.out (show (x % 128).toNat < 128 by omega)
              generalize acc + (x % 128).toNat * 128 ^ 9 = acc2 at *
              have hrl2 : acc2 < 18446744073709551616 := by
                have e2 : (128 : Nat) ^ (9 + 1) = 1180591620717411303424 := by decide
                have e3 : gU b at' = .ok (acc2, at' + (9 + 1)) := hres.out
                exact gU_lt HB.out e3
              clear hx0 hx1
              go_wp2_with fail
              refine (getU1 _ _).mono ?_
              rintro e w1 ⟨rfl, rfl⟩
              go_wp2
              try simp only [Exit.noGoto]
              go_ret3
              exact ⟨by rw [hres.out]; rfl, hb⟩
        · have d9 : ((k : Int) == 9) = false := by simp; omega
          by_cases hx0 : x = 0 ∧ 0 < k
          · skip
            obtain ⟨hx0, hk0⟩ := hx0
            subst hx0
            have hk1 : decide (0 < (k : Int)) = true := by simp; omega
            have hres : Hid (gU b at' = .error 7) := hide (by unfold gU; rw [hg2.out (.error 7) (by rw [gt, if_neg (by omega), if_pos ⟨rfl, hk0⟩])])
            go_wp2
            try simp only [Exit.noGoto]
            go_ret3
            exact ⟨by rw [hres.out]; rfl, hb⟩
          · by_cases hx8 : x < 128
            · by_cases hz : x = 0
              · skip
                obtain rfl : k = 0 := by omega
                have ha0 := hac.out
                obtain rfl : acc = 0 := by omega
                subst hz
                have ho : bits .or .u64 0 0 = 0 := by decide
                have ho2 : bits .or .u64 0 (IntKind.u64.wrap 0) = 0 := by decide
                have hres : Hid (gU b at' = .ok (0, at' + 1)) := hide (by unfold gU; rw [hg2.out (.ok (0, 0 + 1)) (by rw [gt, if_neg (by omega), if_neg (by omega), if_pos (by omega)]; rfl)])
                clear ha0
                simp only [Nat.add_zero] at q2
                go_wp2_with fail
                refine (getU1 _ _).mono ?_
                rintro e w1 ⟨rfl, rfl⟩
                go_wp2
                try simp only [Exit.noGoto]
                go_ret3
                exact ⟨by rw [hres.out]; rfl, hb⟩
              · skip
                have d0 : (x == 0) = false := by simp [hz]
                have dl : decide (x < 128) = true := decide_eq_true hx8
                have ho := or_acc acc k x hby.1 hac.out hk9 (fun e => absurd e h9)
                have hres : Hid (gU b at' = .ok (acc + (x % 128).toNat * 128 ^ k, at' + (k + 1))) := hide (by unfold gU; rw [hg2.out (.ok (acc + (x % 128).toNat * 128 ^ k, k + 1)) (by rw [gt, if_neg (by omega), if_neg (by omega), if_pos hx8])])
                generalize acc + (x % 128).toNat * 128 ^ k = acc2 at *
                have hrl2 : acc2 < 18446744073709551616 := gU_lt HB.out hres.out
                go_wp2_with fail
                refine (getU1 _ _).mono ?_
                rintro e w1 ⟨rfl, rfl⟩
                go_wp2
                try simp only [Exit.noGoto]
                go_ret3
                exact ⟨by rw [hres.out]; rfl, hb⟩
            · skip
              have dl : decide (x < 128) = false := decide_eq_false hx8
              have ho := or_acc acc k x hby.1 hac.out hk9 (fun e => absurd e h9)
              have hla := acc_lt hac.out (show (x % 128).toNat < 128 by omega)
              have hg4 := hide (hg3.out (acc + (x % 128).toNat * 128 ^ k) (by rw [gt, if_neg (by omega), if_neg (by omega), if_neg hx8]; rfl))
              generalize acc + (x % 128).toNat * 128 ^ k = acc2 at *
              have HLA := hide hla
              clear hla hac
              go_wp2
              go_roundw
              case rel => exact ⟨k + 1, acc2, by go_num, rfl, rfl, by go_num, by omega, by omega, HLA, hg4, (j1), hb⟩
              case measure => simp [intOf]; omega
      · have hend : at' + k = b.length := by omega
        have hres : Hid (gU b at' = .error 6) := hide (by unfold gU; rw [← hgt.out, hend, List.drop_length]; rfl)
        go_wp2
        try simp only [Exit.noGoto]
        go_ret3
        exact ⟨by rw [hres.out]; rfl, hb⟩
  · obtain rfl : at' = b.length := by omega
    have hres : Hid (gU b b.length = .error 6) := hide (by unfold gU; rw [List.drop_length]; rfl)
    clear hB hR
    go_enter Tryz.func108, Tryz.ntmps108
    go_wp2_with fail
    refine wp_scope_straight ?_
    go_wp2_with fail
    refine wp_label ?_
    go_wp2_with fail
    all_goals
      refine wp_loop_rounds 1 ?_
      rw [rounds_succ]
      go_wp2
      try simp only [Exit.noGoto]
      go_ret3
      exact ⟨by rw [hres.out]; rfl, b0 w⟩

theorem vary_GetU (A : Option Addr) (c at' : Nat) (b : List Int) (hB : Byt b) (hat : at' ≤ b.length) (w : World) (hR : YR w A c b) :
    Calls Tryz.prog 85 #[.slice A b.length c, .int .i64 (at' : Int)] w fun e w' => getPU (gU b at') e ∧ Below w.heap.size w w' := by
  have c1 := vary_getsU A c at' b hB hat w hR
  cases h : gU b at' with
  | ok p =>
    obtain ⟨N, nx⟩ := p
    rw [h] at c1
    clear h
    go_enter Tryz.func85, Tryz.ntmps85
    go_wp2_with fail
    refine c1.mono ?_
    rintro e w1 ⟨he, hb⟩
    obtain rfl : e = _ := he
    go_wp2
    go_ret3
    exact ⟨rfl, hb⟩
  | error x =>
    rw [h] at c1
    clear h
    go_enter Tryz.func85, Tryz.ntmps85
    go_wp2_with fail
    refine c1.mono ?_
    rintro e w1 ⟨he, hb⟩
    obtain rfl : e = _ := he
    go_wp2
    go_ret3
    exact ⟨rfl, hb⟩
set_option maxRecDepth 100000 in
set_option maxHeartbeats 4000000 in
theorem vary_getsS (A : Option Addr) (c at' : Nat) (b : List Int) (hB : Byt b) (hat : at' ≤ b.length) (w : World) (hR : YR w A c b) :
    Calls Tryz.prog 131 #[.slice A b.length c, .int .i64 (at' : Int), .func (Fn.func 132) #[] #[]] w fun e w' => getPS (pS b at') e ∧ Below w.heap.size w w' := by
  have htop := hR.top
  have hcap := hR.cap
  have dat : decide ((at' : Int) < 0) = false := by simp
  have dal : decide ((b.length : Int) < (at' : Int)) = false := by simp; omega
  by_cases hlt0 : at' < b.length
  · obtain ⟨g, o, cur, rfl, hg, hc⟩ := hR.mem (by omega)
    have HC := hide hc
    have HB := hide hB
    clear hc hR hB
    have hcn : ¬ c = at' := by omega
    go_enter Tryz.func131, Tryz.ntmps131
    obtain ⟨zg_a, zg_b, lg0⟩ := rcell hg
    go_wp2_with fail
    refine wp_scope_straight ?_
    go_wp2_with fail
    refine wp_label ?_
    go_wp2_with fail
    go_loopw [10, 11, 12, 29] (fun vn ve vx vi wr => ∃ (k acc : Nat), vi = .int .i64 k ∧ vn = .int .u64 (acc : Int) ∧ ve = .int .i64 6 ∧ vx = .int .i64 ((at' + k : Nat) : Int) ∧ at' + k ≤ b.length ∧ k ≤ 9 ∧ Hid (acc < 128 ^ k) ∧ Hid (gt (b.drop (at' + k)) k acc = gt (b.drop at') 0 0) ∧ wr.heap[g]? = some (.cells cur 5 (0, 0)) ∧ Below w.heap.size w wr) (fun _ _ _ vi _ => b.length - (intOf vi).toNat)
    case atStart => exact ⟨0, 0, rfl, rfl, rfl, rfl, by omega, by omega, hide (by decide), hide rfl, (hg), (b0 w)⟩
    case round =>
      obtain ⟨k, acc, rfl, rfl, rfl, rfl, hk, hk9, hac, hgt, j1, hb⟩ := hrel
      by_cases hlt : at' + k < b.length
      · have q1 := HC.out (at' + k) hlt
        have hby := HB.out _ (List.getElem_mem hlt)
        have hg2 : Hid (∀ r, gt (b[at' + k] :: b.drop (at' + k + 1)) k acc = r → gt (b.drop at') 0 0 = r) := hide (fun r h => by rw [← hgt.out, b_drop hlt]; exact h)
        have hg3 : Hid (∀ acc2, gt (b[at' + k] :: b.drop (at' + k + 1)) k acc = gt (b.drop (at' + (k + 1))) (k + 1) acc2 → gt (b.drop (at' + (k + 1))) (k + 1) acc2 = gt (b.drop at') 0 0) := hide (fun acc2 h => by rw [← hgt.out, b_drop hlt]; exact h.symm)
        generalize b[at' + k] = x at *
        have ba := and127b x hby.1 hby.2
        have ea : o + at' + k = o + (at' + k) := by omega
        have q2 : cur[o + at' + k]? = some (.int .u8 x) := by rw [ea]; exact q1
        clear ea q1
        obtain ⟨zg_a, zg_b, lg1⟩ := rcell j1
        by_cases h9 : k = 9
        · subst h9
          by_cases hx1 : 1 < x
          · skip
            have d1 : decide (1 < x) = true := decide_eq_true hx1
            have hres : Hid (gU b at' = .error 7) := hide (by unfold gU; rw [hg2.out (.error 7) (by rw [gt, if_pos ⟨rfl, hx1⟩])])
            go_wp2
            try simp only [Exit.noGoto]
            go_ret3
            exact ⟨by unfold pS; rw [hres.out]; rfl, hb⟩
          · have d1 : decide (1 < x) = false := decide_eq_false hx1
            by_cases hx0 : x = 0
            · skip
              subst hx0
              have hres : Hid (gU b at' = .error 7) := hide (by unfold gU; rw [hg2.out (.error 7) (by rw [gt, if_neg (by omega), if_pos ⟨rfl, by omega⟩])])
              go_wp2
              try simp only [Exit.noGoto]
              go_ret3
              exact ⟨by unfold pS; rw [hres.out]; rfl, hb⟩
            · skip
              have d0 : (x == 0) = false := by simp [hx0]
              have dl : decide (x < 128) = true := by simp; omega
              have ho := or_acc acc 9 x hby.1 hac.out (by omega) (fun _ => by omega)
              rw [show (2 : Int) ^ (7 * 9) = 9223372036854775808 by decide] at ho
              have hres : Hid (gU b at' = .ok (acc + (x % 128).toNat * 128 ^ 9, at' + (9 + 1))) := hide (by unfold gU; rw [hg2.out (.ok (acc + (x % 128).toNat * 128 ^ 9, 9 + 1)) (by rw [gt, if_neg (by omega), if_neg (by omega), if_pos (by omega)])])
              have hrl := acc_lt hac.out (show (x % 128).toNat < 128 by omega)
              generalize acc + (x % 128).toNat * 128 ^ 9 = acc2 at *
              have hrl2 : acc2 < 18446744073709551616 := by
                have e2 : (128 : Nat) ^ (9 + 1) = 1180591620717411303424 := by decide
                have e3 : gU b at' = .ok (acc2, at' + (9 + 1)) := hres.out
                exact gU_lt HB.out e3
              clear hx0 hx1
              go_wp2_with fail
              refine (vary_unfolded _ hrl2 _).mono ?_
              rintro e w1 ⟨rfl, rfl⟩
              go_wp2
              try simp only [Exit.noGoto]
              go_ret3
              exact ⟨by unfold pS; rw [hres.out]; rfl, hb⟩
        · have d9 : ((k : Int) == 9) = false := by simp; omega
          by_cases hx0 : x = 0 ∧ 0 < k
          · skip
            obtain ⟨hx0, hk0⟩ := hx0
            subst hx0
            have hk1 : decide (0 < (k : Int)) = true := by simp; omega
            have hres : Hid (gU b at' = .error 7) := hide (by unfold gU; rw [hg2.out (.error 7) (by rw [gt, if_neg (by omega), if_pos ⟨rfl, hk0⟩])])
            go_wp2
            try simp only [Exit.noGoto]
            go_ret3
            exact ⟨by unfold pS; rw [hres.out]; rfl, hb⟩
          · by_cases hx8 : x < 128
            · by_cases hz : x = 0
              · skip
                obtain rfl : k = 0 := by omega
                have ha0 := hac.out
                obtain rfl : acc = 0 := by omega
                subst hz
                have ho : bits .or .u64 0 0 = 0 := by decide
                have ho2 : bits .or .u64 0 (IntKind.u64.wrap 0) = 0 := by decide
                have hres : Hid (gU b at' = .ok (0, at' + 1)) := hide (by unfold gU; rw [hg2.out (.ok (0, 0 + 1)) (by rw [gt, if_neg (by omega), if_neg (by omega), if_pos (by omega)]; rfl)])
                clear ha0
                simp only [Nat.add_zero] at q2
                have c0 : ∀ w, Calls Tryz.prog 132 #[.int .u64 0] w fun e w' => e = .returned (.int .i64 0) ∧ w = w' := vary_unfolded 0 (by decide)
                go_wp2_with fail
                refine (c0 _).mono ?_
                rintro e w1 ⟨rfl, rfl⟩
                go_wp2
                try simp only [Exit.noGoto]
                go_ret3
                exact ⟨by unfold pS; rw [hres.out]; rfl, hb⟩
              · skip
                have d0 : (x == 0) = false := by simp [hz]
                have dl : decide (x < 128) = true := decide_eq_true hx8
                have ho := or_acc acc k x hby.1 hac.out hk9 (fun e => absurd e h9)
                have hres : Hid (gU b at' = .ok (acc + (x % 128).toNat * 128 ^ k, at' + (k + 1))) := hide (by unfold gU; rw [hg2.out (.ok (acc + (x % 128).toNat * 128 ^ k, k + 1)) (by rw [gt, if_neg (by omega), if_neg (by omega), if_pos hx8])])
                generalize acc + (x % 128).toNat * 128 ^ k = acc2 at *
                have hrl2 : acc2 < 18446744073709551616 := gU_lt HB.out hres.out
                go_wp2_with fail
                refine (vary_unfolded _ hrl2 _).mono ?_
                rintro e w1 ⟨rfl, rfl⟩
                go_wp2
                try simp only [Exit.noGoto]
                go_ret3
                exact ⟨by unfold pS; rw [hres.out]; rfl, hb⟩
            · skip
              have dl : decide (x < 128) = false := decide_eq_false hx8
              have ho := or_acc acc k x hby.1 hac.out hk9 (fun e => absurd e h9)
              have hla := acc_lt hac.out (show (x % 128).toNat < 128 by omega)
              have hg4 := hide (hg3.out (acc + (x % 128).toNat * 128 ^ k) (by rw [gt, if_neg (by omega), if_neg (by omega), if_neg hx8]; rfl))
              generalize acc + (x % 128).toNat * 128 ^ k = acc2 at *
              have HLA := hide hla
              clear hla hac
              go_wp2
              go_roundw
              case rel => exact ⟨k + 1, acc2, by go_num, rfl, rfl, by go_num, by omega, by omega, HLA, hg4, (j1), hb⟩
              case measure => simp [intOf]; omega
      · have hend : at' + k = b.length := by omega
        have hres : Hid (gU b at' = .error 6) := hide (by unfold gU; rw [← hgt.out, hend, List.drop_length]; rfl)
        go_wp2
        try simp only [Exit.noGoto]
        go_ret3
        exact ⟨by unfold pS; rw [hres.out]; rfl, hb⟩
  · obtain rfl : at' = b.length := by omega
    have hres : Hid (gU b b.length = .error 6) := hide (by unfold gU; rw [List.drop_length]; rfl)
    clear hB hR
    go_enter Tryz.func131, Tryz.ntmps131
    go_wp2_with fail
    refine wp_scope_straight ?_
    go_wp2_with fail
    refine wp_label ?_
    go_wp2_with fail
    all_goals
      refine wp_loop_rounds 1 ?_
      rw [rounds_succ]
      go_wp2
      try simp only [Exit.noGoto]
      go_ret3
      exact ⟨by unfold pS; rw [hres.out]; rfl, b0 w⟩

theorem vary_Get (A : Option Addr) (c at' : Nat) (b : List Int) (hB : Byt b) (hat : at' ≤ b.length) (w : World) (hR : YR w A c b) :
    Calls Tryz.prog 110 #[.slice A b.length c, .int .i64 (at' : Int)] w fun e w' => getPS (pS b at') e ∧ Below w.heap.size w w' := by
  have c1 := vary_getsS A c at' b hB hat w hR
  cases h : pS b at' with
  | ok p =>
    obtain ⟨N, nx⟩ := p
    rw [h] at c1
    clear h
    go_enter Tryz.func110, Tryz.ntmps110
    go_wp2_with fail
    refine c1.mono ?_
    rintro e w1 ⟨he, hb⟩
    obtain rfl : e = _ := he
    go_wp2
    go_ret3
    exact ⟨rfl, hb⟩
  | error x =>
    rw [h] at c1
    clear h
    go_enter Tryz.func110, Tryz.ntmps110
    go_wp2_with fail
    refine c1.mono ?_
    rintro e w1 ⟨he, hb⟩
    obtain rfl : e = _ := he
    go_wp2
    go_ret3
    exact ⟨rfl, hb⟩
end Go.Proofs.YtmpfbkeamihjbaaGreat

namespace Go.Proofs.YtmpfbkeamihjbaaGreat
open Go.RowKit
attribute [local go_sem] Oper.semAt_some

theorem OwnC.keepsT {kd : IntKind} {T : TypeId} {B D : Nat} {w w1 : World} {v : Value} {l : List Int} (h : OwnC kd T B w v l) (hx : Turned D w w1) (hg : v.ownBlock ≠ some D) : OwnC kd T B w1 v l :=
  World.ownsRow.kept h ⟨hx.os, hx.tape, hx.output, Nat.le_of_eq hx.size.symm, fun k hk hn => hx.block k (fun e => hn (by rw [e]))⟩ (.inr hg)
theorem OwnC.keepsX {kd : IntKind} {T : TypeId} {B g : Nat} {w w1 : World} {v : Value} {l : List Int} (h : OwnC kd T B w v l) (hx : Exc g w w1) (hg : v.ownBlock ≠ some g) : OwnC kd T B w1 v l :=
  World.ownsRow.kept h ⟨hx.low.os, hx.low.tape, hx.low.output, hx.size, fun k hk hn => hx.other k hk (fun e => hn (by rw [e]))⟩ (.inr hg)

theorem CR.keepsD {kd : IntKind} {T : TypeId} {D : Nat} {w w1 : World} {A : Option Addr} {c : Nat} {l : List Int} {d : Option (List Deferred)} (h : CR kd T w A c l) (hx : Turned D w w1) (hD : w.heap[D]? = some (.deferred d)) : CR kd T w1 A c l :=
  ⟨h.cap, h.top, fun hl => by
    obtain ⟨g, o, cur, e, hg, hc⟩ := h.mem hl
    have hne : g ≠ D := by
      rintro rfl
      rw [hg] at hD
      cases hD
    exact ⟨g, o, cur, e, (hx.block g hne).trans hg, hc⟩⟩
/-- a copy into a row that is known whole: nothing but the row turns -/
theorem wpList_copyX {P : Program} {w : World} {ops : Array Oper} {rest : List Oper} {o : Oper} {a : Act} {Q : Exit → Act → World → Prop} (hgd : o.guard = none) (d s : Operand) (dT sT : TypeId)
    (ho : o.op = .call { callee := .builtin .copy, args := #[d, s], argTypes := #[dT, sT] }) (elem : TypeId) (hu : P.underlying dT = some (.slice elem)) (hsz : (P.info? elem).map (·.size) = some 1)
    (dp sp : Option Addr) (dLen dCap sLen sCap : Nat) (hd : a.eval d = .slice dp dLen dCap) (hs : a.eval s = .slice sp sLen sCap)
    (g off : Nat) (cur : List Value) (t : TypeId) (hg : w.heap[g]? = some (.cells cur.toArray t (0, 0))) (cs : List Value) (hn : cs.length = Nat.min sLen dLen)
    (hpos : 0 < cs.length → dp = some ⟨g, off, none⟩ ∧ ∃ ad, sp = some ad ∧ ∀ j v, cs[j]? = some v → w.cell? (ad.add j) = some v)
    (hfit : off + cs.length ≤ cur.length) (h1 : ∀ v ∈ cs, v.oneCell' = true)
    (h : ∀ w', Hid (w'.heap[g]? = some (.cells (splice cur off cs).toArray t (0, 0))) → Exc g w w' → wpList P ops Q rest (a.put o.dst (goInt cs.length)) w') :
    wpList P ops Q (o :: rest) a w := by
  have hlt : g ≤ w.heap.size := Nat.le_of_lt (Array.getElem?_eq_some_iff.1 hg).1
  by_cases h0 : cs.length = 0
  · obtain rfl : cs = [] := List.eq_nil_of_length_eq_zero h0
    refine wpList_copy_nothing hgd d s dT sT ho elem hu hsz dp sp dLen dCap sLen sCap hd hs (by simpa using hn.symm) ?_
    exact h w (show _ = _ by simpa [splice] using hg) (x0 g w hlt)
  · obtain ⟨rfl, ad, rfl, hsrc⟩ := hpos (by omega)
    refine wpList_copy_own hgd d s dT sT ho elem hu hsz g off dLen dCap ad sLen sCap hd hs cur.toArray t hg cs hn hsrc (by simpa using hfit) h1 ?_
    exact h _ (show _ = _ by simpa [splice] using setRow_heap w g _ _ t _ hg) ⟨hlt, ⟨rfl, rfl, rfl, by simp [World.setRow], fun k hk => Go.setRow_other w g k _ (by omega)⟩, by simp [World.setRow], fun k _ hk => Go.setRow_other w g k _ hk⟩

/-- make([]byte, n, n + 9), and n bytes copied into it -/
theorem made_own (w : World) (n c : Nat) (B : Nat) (hB : B ≤ w.heap.size) (l : List Int) (hn : l.length = n) (hc : n ≤ c) (hm : c ≤ 1048576) {w' : World}
    (h : w'.heap[w.heap.size]? = some (.cells (splice (madeCells #[.int .u8 0] c).toList 0 (cvals .u8 l)).toArray 5 (0, 0))) : OwnC .u8 5 B w' (.slice (some ⟨w.heap.size, 0, none⟩) n c) l := by
  have hs : (madeCells #[.int .u8 0] c).toList.length = c := by
    rw [Array.length_toList, size_madeCells]
  refine ⟨by rw [cvals_len]; omega, .inr ⟨w.heap.size, c, _, by rw [hn], hB, h, by omega, by unfold maxLen; omega, ?_, ?_⟩⟩
  · rw [List.size_toArray, length_splice _ _ _ (by rw [cvals_len, hs]; omega), hs, Nat.mul_one]
  · rw [List.toList_toArray]
    unfold splice
    rw [List.take_zero, List.nil_append, Nat.mul_one, List.take_append_of_le_length (by rw [cvals_len]; omega), List.take_of_length_le (by rw [cvals_len]; omega)]

/-- what puts keeps between two rounds: the row stands in the variable behind its first block -/
def puI (w W0 : World) (l : List Int) (pre : List Int) (W : World) : Prop :=
  ∃ v, W.heap[w.heap.size + 1]? = some (.cells #[v] 30 (0, 0)) ∧ OwnC .u8 5 w.heap.size W v (l ++ pre) ∧ (v.ownBlock = some w.heap.size ∨ ∃ k, v.ownBlock = some k ∧ W0.heap.size + 2 ≤ k) ∧ W0.heap.size ≤ W.heap.size ∧ Below w.heap.size w W

theorem puI.below {w W0 X Y : World} {l pre : List Int} (h : puI w W0 l pre X) (hb : Below X.heap.size X Y) : puI w W0 l pre Y := by
  obtain ⟨v, h1, h2, h3, h4, h5⟩ := h
  exact ⟨v, kp hb h1, h2.lift hb, h3, Nat.le_trans h4 hb.size, bB h5 hb⟩
theorem puI.turned {w W0 X Y : World} {l pre : List Int} {L : Nat} (h : puI w W0 l pre X) (ht : Turned L X Y) (hL : L = W0.heap.size + 1) (hs : w.heap.size + 3 ≤ W0.heap.size) : puI w W0 l pre Y := by
  obtain ⟨v, h1, h2, h3, h4, h5⟩ := h
  refine ⟨v, kt ht h1 (by omega), h2.keepsT ht ?_, h3, by rw [ht.size]; exact h4, h5.trans (ht.low (by omega))⟩
  rcases h3 with h3 | ⟨k, h3, hk⟩ <;> rw [h3] <;> intro e <;> injection e with e <;> omega
theorem puI.exc {w W0 X Y : World} {l pre : List Int} {L : Nat} (h : puI w W0 l pre X) (hx : Exc L X Y) (hL : w.heap.size + 2 ≤ L) (hL2 : L < W0.heap.size) : puI w W0 l pre Y := by
  obtain ⟨v, h1, h2, h3, h4, h5⟩ := h
  refine ⟨v, kx hx h1 (by omega), h2.keepsX hx ?_, h3, Nat.le_trans h4 hx.size, bX h5 hx (by omega)⟩
  rcases h3 with h3 | ⟨k, h3, hk⟩ <;> rw [h3] <;> intro e <;> injection e with e <;> omega

set_option maxRecDepth 100000 in
set_option maxHeartbeats 4000000 in
theorem vary_putsU (A : Option Addr) (c : Nat) (l : List Int) (N X : Nat) (hN : N < 18446744073709551616) (hl : l.length ≤ 524288) (w : World) (hR : YR w A c l) (hX : w.heap[X]? = some (.cells #[.int .u64 (N : Int)] 69 (0, 0))) :
    Calls Tryz.prog 76 #[.slice A l.length c, .func (Fn.func 77) #[] #[], .slice (some ⟨X, 0, none⟩) 1 1] w fun e w' => ∃ A' c', e = .returned (.slice A' (l ++ ub N).length c') ∧ YR w' A' c' (l ++ ub N) ∧ Below w.heap.size w w' := by
  have hmf : ∀ (fn : Fn) (first cap : Array Value) (w : World), (Instr.makeFunc fn first cap).run Tryz.prog w = .ok (.func fn first cap) w := fun _ _ _ _ => rfl
  obtain ⟨i0, hi0, hz0, hz1, hz2⟩ := info_parts byte_info
  have hmk : ∀ w : World, (Instr.makeSlice 30 (.int .i64 (l.length : Int)) (.int .i64 ((l.length : Int) + 1 + 8))).run Tryz.prog w = .ok (.slice (some ⟨w.heap.size, 0, none⟩) l.length (l.length + 9)) (w.alloc (.cells (madeCells #[.int .u8 0] (l.length + 9)) 5)) := fun w => by
    have := run_make (P := Tryz.prog) w 30 5 i0 (.int .u8 0) Tryz.underlying30 hi0 hz0 .i64 .i64 (l.length : Int) ((l.length : Int) + 1 + 8) (by omega) (by omega) (by rw [hz2]; omega) (by omega)
    rw [hz1, Nat.mul_one, Int.toNat_natCast, show ((l.length : Int) + 1 + 8).toNat = l.length + 9 by omega] at this
    exact this
  refine calls_of_wp_marks Tryz.func76 rfl ?_
  simp only [Tryz.ntmps76, List.size_toArray, List.length_cons, List.length_nil, Nat.reduceAdd, Nat.reduceSub, Array.replicate_succ, Array.replicate_zero, List.push_toArray, List.append_toArray, List.nil_append, List.cons_append]
  obtain ⟨cs, hcs⟩ : ∃ cs, cs = cvals .u8 l := ⟨_, rfl⟩
  have hcl : cs.length = l.length := by rw [hcs, cvals_len]
  have hsz1 : (Tryz.prog.info? 5).map (·.size) = some 1 := by rw [hi0]; simp [hz1]
  have hsrc : ∀ W : World, Below w.heap.size w W → 0 < cs.length → some (⟨w.heap.size, 0, none⟩ : Addr) = some ⟨w.heap.size, 0, none⟩ ∧ ∃ ad, A = some ad ∧ ∀ j v, cs[j]? = some v → W.cell? (ad.add j) = some v := fun W hW h0 => by
    obtain ⟨ad, e, h1, h2⟩ := (hR.below hW).inC (by omega)
    refine ⟨rfl, ad, e, fun j v hv => ?_⟩
    rw [hcs] at hv
    have hj : j < l.length := by rw [← cvals_len .u8 l]; exact (List.getElem?_eq_some_iff.1 hv).1
    rw [h2 j hj, ← hv, cvals_get _ _ _ hj]
  have H1 := hide (show ∀ v ∈ cs, v.oneCell' = true by rw [hcs]; exact cvals_one _ _)
  obtain ⟨M, hM⟩ : ∃ M, M = madeCells #[.int .u8 0] (l.length + 9) := ⟨_, rfl⟩
  have hMs : M.toList.length = l.length + 9 := by rw [hM, Array.length_toList, size_madeCells]
  have hown : ∀ w' : World, w'.heap[w.heap.size]? = some (.cells (splice M.toList 0 cs).toArray 5 (0, 0)) → OwnC .u8 5 w.heap.size w' (.slice (some ⟨w.heap.size, 0, none⟩) l.length (l.length + 9)) l := fun w' h => made_own w l.length (l.length + 9) w.heap.size (Nat.le_refl _) l rfl (by omega) (by omega) (by rw [← hM, ← hcs]; exact h)
  rw [← hM] at hmk
  have HCS := hide hcs
  have HCL := hide hcl
  have HMS := hide hMs
  have HR := hide hR
  have HOWN := hide hown
  clear hcs hcl hM hMs hR hown
  have hZ : (w.alloc (.cells M 5)).heap[w.heap.size]? = some (.cells M.toList.toArray 5 (0, 0)) := by rw [Array.toArray_toList]; exact na w _ _
  have HZ := hide hZ
  clear hZ
  have hmin : cs.length = Nat.min l.length l.length := by rw [HCL.out]; exact (Nat.min_self _).symm
  have HMIN := hide hmin
  clear hmin
  go_wp2_with (refine wpList_copyX rfl _ _ _ _ rfl 5 Tryz.underlying30 hsz1 _ _ _ _ _ _ rfl rfl w.heap.size 0 M.toList 5 (ka HZ.out _) cs HMIN.out (hsrc _ (bA (bA (b0 w) _) _)) (by rw [HMS.out, HCL.out]; omega) H1.out ?_; intro w2 HG2 hX2)
  have f2 := kx hX2 (na1 w (.cells M 5) #[.slice (some ⟨w.heap.size, 0, none⟩) l.length (l.length + 9)] 30) (by omega)
  have hB2 : Below w.heap.size w w2 := bX (bA (bA (b0 w) _) _) hX2 (Nat.le_refl _)
  have ho2 := HOWN.out w2 HG2.out
  have hX2' : w2.heap[X]? = some (.cells #[.int .u64 (N : Int)] 69 (0, 0)) := kp hB2 hX
  have hs2 : w.heap.size + 2 ≤ w2.heap.size := by have := hX2.size; simp at this; omega
  clear HG2 hX2 hsrc HZ
  obtain ⟨zX1, zX2, zX3⟩ := rcell hX2'
  obtain ⟨zv1, zv2, zv3⟩ := rcell f2
  have hs1 : w.heap.size + 2 ≤ w2.heap.size := hs2
  refine wp_loop_rounds 2 ?_
  rw [rounds_succ]
  go_wp2_with fail
  refine (vary_plain _ _).mono ?_
  rintro e w3 ⟨rfl, rfl⟩
  go_wp2_with fail
  refine (vary_bytes _ _).mono ?_
  rintro e w3 ⟨rfl, rfl⟩
  go_wp2_with fail
  generalize hW0 : w2.alloc (.cells #[.int .u64 (N : Int)] 138) = W0
  have hs0 : W0.heap.size = w2.heap.size + 1 := by rw [← hW0]; simp
  have hI0 : puI w W0 l [] W0 := by
    refine ⟨.slice (some ⟨w.heap.size, 0, none⟩) l.length (l.length + 9), ?_, ?_, .inl rfl, Nat.le_refl _, ?_⟩
    · rw [← hW0]; exact ka f2 _
    · rw [← hW0, List.append_nil]; exact ho2.lift (bA (b0 _) _)
    · rw [← hW0]; exact bA hB2 _
  have hB0 : W0.heap[w2.heap.size]? = some (.cells #[.int .u64 (N : Int)] 138 (0, 0)) := by
    rw [← hW0]; exact na w2 _ _
  clear hW0 ho2 zX1 zX2 zX3 zv1 zv2 zv3 f2
  refine wp_rangeFunc_seqB rfl (enters_of Tryz.func127 (by kernel_rfl) rfl) (Bs := w2.heap.size) (by omega) (bytes_seq w2.heap.size N hN W0 hB0) (fun _ => rfl)
    (puI w W0 l) (fun _ _ _ => False) (fun s X Y h hb => h.below hb) (fun s X Y h ht => h.turned ht rfl (by omega)) (fun _ _ _ _ h _ => h) (fun _ _ _ _ h _ => h) (fun _ _ _ => trivial) (fun s X Y h hx => h.exc hx (by omega) (by omega)) hI0 ?round ?done ?stop
  case round =>
    rintro l' pre x W K rfl hl2 hi hlen hK
    have e1 : encY x = #[.int .u8 x] := rfl
    rw [e1]
    gi_wp2
    refine hK _ _ (b0 _) ?_
    clear hK
    intro W₂ hT
    obtain ⟨v, i1, i2, i3, i4, i5⟩ := hi.turned hT rfl (by omega)
    have hkeep : Hid (∀ k, k < W0.heap.size + 2 → k ≠ w.heap.size → v.ownBlock ≠ some k) := hide fun k h1 h2 e => by
      rcases i3 with i3 | ⟨k', i3, hk'⟩ <;> rw [i3] at e <;> injection e with e <;> omega
    have I3 := hide i3
    clear i3
    have HSZ := hide hT.size
    obtain ⟨z1, z2, z3⟩ := rcell i1
    have k1 : (l ++ pre).length + [x].length ≤ 1048576 := by simp; omega
    have kB : w.heap.size ≤ (W₂.alloc (.cells #[.int .u8 x] 5)).heap.size := by simp; omega
    have kW : W0.heap.size + 2 ≤ W₂.heap.size := by have := HSZ.out; omega
    have KT := hide hT
    clear hT
    gi_wp2_with (gi_at_builtin; refine wpListIn_pushC rfl _ _ 30 rfl 1 Tryz.underlying30 byte_info (by decide) w.heap.size _ (l ++ pre) [x] _ _ rfl rfl (i2.lift (bA (b0 _) _)) (CR.oneI (T := 5) _ _).inC k1 kB ?_; intro v1 w5 ho5 hg5 hn5; have HB5 := hide (((bA (b0 W₂) (.cells #[.int .u8 x] 5)).mono (show w.heap.size ≤ W₂.heap.size by omega)).grown hg5 kB i2.lt); have HQ5 := hide (show ∀ k, k < W0.heap.size + 2 → k ≠ w.heap.size → w5.heap[k]? = W₂.heap[k]? from fun k h1 h2 => (hg5.block k (by simp; omega) (fun e => hkeep.out k h1 h2 e.symm)).trans ((bA (b0 W₂) (.cells #[.int .u8 x] 5)).block k (by omega))); have HS5 := hide hg5.size; have f5 := (HQ5.out _ (by omega) (by omega)).trans i1; obtain ⟨y1, y2, y3⟩ := rcell f5; have HO5 := hide ho5; have HN5 := hide hn5; obtain ⟨A5, c5, rfl, hr5⟩ := ho5.cr; clear hr5 ho5 hg5 hn5)
    rw [row1 f5]
    generalize hT6 : setRow w5 _ _ = w6
    obtain ⟨hx6, f6⟩ := fin_x (b0 _) f5 hT6
    have hs5 : W₂.heap.size ≤ w5.heap.size := by have := HS5.out; simp at this; omega
    have hq : ∀ k, k < W0.heap.size + 2 → k ≠ w.heap.size → k ≠ w.heap.size + 1 → w6.heap[k]? = W₂.heap[k]? := fun k h1 h2 h3 => (hx6.other k (by omega) h3).trans (HQ5.out k h1 h2)
    refine ⟨⟨Nat.le_trans hs5 hx6.size, hq _ (by omega) (by omega) (by omega), hq _ (by omega) (by omega) (by omega)⟩, hq _ (by omega) (by omega) (by omega), _, f6, ?_, ?_, ?_, ?_⟩
    · have hne : (Value.slice A5 (l ++ pre ++ [x]).length c5).ownBlock ≠ some (w.heap.size + 1) := by
        intro e
        rcases HN5.out with h | h
        · rw [h] at e
          exact hkeep.out _ (by omega) (by omega) e
        · rw [h] at e
          injection e with e
          simp at e
          omega
      have := HO5.out.keepsX hx6 hne
      rw [List.append_assoc] at this
      simpa using this
    · have h8 : (Value.slice A5 (l.length + (pre.length + 1)) c5).ownBlock = (Value.slice A5 (l ++ pre ++ [x]).length c5).ownBlock := by
        congr 2
        simp
      rw [h8]
      rcases HN5.out with h | h
      · rw [h]; exact I3.out
      · exact .inr ⟨_, h, by simp; omega⟩
    · exact Nat.le_trans (by omega) hx6.size
    · exact bX (i5.trans HB5.out) hx6 (by omega)
  case done =>
    rintro D xs W hD hS hi hK
    subst hS
    obtain ⟨v, i1, i2, i3, i4, i5⟩ := hi
    obtain ⟨A', c', rfl, hr⟩ := i2.cr
    obtain ⟨z1, z2, z3⟩ := rcell i1
    obtain ⟨u, hu⟩ : ∃ u, u = l ++ ub N := ⟨_, rfl⟩
    rw [← hu] at i1 hr z1
    have HK := hide hK
    have HU := hide hu
    clear hu hK i2 i3
    go_wp2_with fail
    rw [rounds_succ]
    go_wp2_with fail
    have hp := turned_put W D (.deferred none)
    refine marks_ret rfl HK.out (v := .slice A' u.length c') (by simp [results, Tryz.results76, go_sem]; try rfl) ⟨A', c', by rw [HU.out], by rw [← HU.out]; exact hr.keepsD hp HK.out, i5.trans (hp.low (by omega))⟩
  case stop =>
    rintro D c' pre W hD _ hf hK
    exact hf.elim
set_option maxRecDepth 100000 in
set_option maxHeartbeats 4000000 in
theorem vary_putsS (A : Option Addr) (c : Nat) (l : List Int) (n : Int) (X : Nat) (h0 : -9223372036854775808 ≤ n) (h1 : n ≤ 9223372036854775807) (hl : l.length ≤ 524288) (w : World) (hR : YR w A c l) (hX : w.heap[X]? = some (.cells #[.int .i64 n] 2 (0, 0))) :
    Calls Tryz.prog 78 #[.slice A l.length c, .func (Fn.func 79) #[] #[], .slice (some ⟨X, 0, none⟩) 1 1] w fun e w' => ∃ A' c', e = .returned (.slice A' (l ++ ub (fold n)).length c') ∧ YR w' A' c' (l ++ ub (fold n)) ∧ Below w.heap.size w w' := by
  have hmf : ∀ (fn : Fn) (first cap : Array Value) (w : World), (Instr.makeFunc fn first cap).run Tryz.prog w = .ok (.func fn first cap) w := fun _ _ _ _ => rfl
  obtain ⟨i0, hi0, hz0, hz1, hz2⟩ := info_parts byte_info
  have hmk : ∀ w : World, (Instr.makeSlice 30 (.int .i64 (l.length : Int)) (.int .i64 ((l.length : Int) + 1 + 8))).run Tryz.prog w = .ok (.slice (some ⟨w.heap.size, 0, none⟩) l.length (l.length + 9)) (w.alloc (.cells (madeCells #[.int .u8 0] (l.length + 9)) 5)) := fun w => by
    have := run_make (P := Tryz.prog) w 30 5 i0 (.int .u8 0) Tryz.underlying30 hi0 hz0 .i64 .i64 (l.length : Int) ((l.length : Int) + 1 + 8) (by omega) (by omega) (by rw [hz2]; omega) (by omega)
    rw [hz1, Nat.mul_one, Int.toNat_natCast, show ((l.length : Int) + 1 + 8).toNat = l.length + 9 by omega] at this
    exact this
  refine calls_of_wp_marks Tryz.func78 rfl ?_
  simp only [Tryz.ntmps78, List.size_toArray, List.length_cons, List.length_nil, Nat.reduceAdd, Nat.reduceSub, Array.replicate_succ, Array.replicate_zero, List.push_toArray, List.append_toArray, List.nil_append, List.cons_append]
  obtain ⟨cs, hcs⟩ : ∃ cs, cs = cvals .u8 l := ⟨_, rfl⟩
  have hcl : cs.length = l.length := by rw [hcs, cvals_len]
  have hsz1 : (Tryz.prog.info? 5).map (·.size) = some 1 := by rw [hi0]; simp [hz1]
  have hsrc : ∀ W : World, Below w.heap.size w W → 0 < cs.length → some (⟨w.heap.size, 0, none⟩ : Addr) = some ⟨w.heap.size, 0, none⟩ ∧ ∃ ad, A = some ad ∧ ∀ j v, cs[j]? = some v → W.cell? (ad.add j) = some v := fun W hW h0 => by
    obtain ⟨ad, e, h1, h2⟩ := (hR.below hW).inC (by omega)
    refine ⟨rfl, ad, e, fun j v hv => ?_⟩
    rw [hcs] at hv
    have hj : j < l.length := by rw [← cvals_len .u8 l]; exact (List.getElem?_eq_some_iff.1 hv).1
    rw [h2 j hj, ← hv, cvals_get _ _ _ hj]
  have HH1 := hide (show ∀ v ∈ cs, v.oneCell' = true by rw [hcs]; exact cvals_one _ _)
  obtain ⟨M, hM⟩ : ∃ M, M = madeCells #[.int .u8 0] (l.length + 9) := ⟨_, rfl⟩
  have hMs : M.toList.length = l.length + 9 := by rw [hM, Array.length_toList, size_madeCells]
  have hown : ∀ w' : World, w'.heap[w.heap.size]? = some (.cells (splice M.toList 0 cs).toArray 5 (0, 0)) → OwnC .u8 5 w.heap.size w' (.slice (some ⟨w.heap.size, 0, none⟩) l.length (l.length + 9)) l := fun w' h => made_own w l.length (l.length + 9) w.heap.size (Nat.le_refl _) l rfl (by omega) (by omega) (by rw [← hM, ← hcs]; exact h)
  rw [← hM] at hmk
  have HCS := hide hcs
  have HCL := hide hcl
  have HMS := hide hMs
  have HR := hide hR
  have HOWN := hide hown
  clear hcs hcl hM hMs hR hown
  have hZ : (w.alloc (.cells M 5)).heap[w.heap.size]? = some (.cells M.toList.toArray 5 (0, 0)) := by rw [Array.toArray_toList]; exact na w _ _
  have HZ := hide hZ
  clear hZ
  have hmin : cs.length = Nat.min l.length l.length := by rw [HCL.out]; exact (Nat.min_self _).symm
  have HMIN := hide hmin
  clear hmin
  go_wp2_with (refine wpList_copyX rfl _ _ _ _ rfl 5 Tryz.underlying30 hsz1 _ _ _ _ _ _ rfl rfl w.heap.size 0 M.toList 5 (ka HZ.out _) cs HMIN.out (hsrc _ (bA (bA (b0 w) _) _)) (by rw [HMS.out, HCL.out]; omega) HH1.out ?_; intro w2 HG2 hX2)
  have f2 := kx hX2 (na1 w (.cells M 5) #[.slice (some ⟨w.heap.size, 0, none⟩) l.length (l.length + 9)] 30) (by omega)
  have hB2 : Below w.heap.size w w2 := bX (bA (bA (b0 w) _) _) hX2 (Nat.le_refl _)
  have ho2 := HOWN.out w2 HG2.out
  have hX2' : w2.heap[X]? = some (.cells #[.int .i64 n] 2 (0, 0)) := kp hB2 hX
  have hs2 : w.heap.size + 2 ≤ w2.heap.size := by have := hX2.size; simp at this; omega
  clear HG2 hX2 hsrc HZ
  obtain ⟨zX1, zX2, zX3⟩ := rcell hX2'
  obtain ⟨zv1, zv2, zv3⟩ := rcell f2
  have hs1 : w.heap.size + 2 ≤ w2.heap.size := hs2
  refine wp_loop_rounds 2 ?_
  rw [rounds_succ]
  go_wp2_with fail
  refine (vary_folded _ h0 h1 _).mono ?_
  rintro e w3 ⟨rfl, rfl⟩
  go_wp2_with fail
  refine (vary_bytes _ _).mono ?_
  rintro e w3 ⟨rfl, rfl⟩
  go_wp2_with fail
  generalize hW0 : w2.alloc (.cells #[.int .u64 (fold n : Int)] 138) = W0
  have hs0 : W0.heap.size = w2.heap.size + 1 := by rw [← hW0]; simp
  have hI0 : puI w W0 l [] W0 := by
    refine ⟨.slice (some ⟨w.heap.size, 0, none⟩) l.length (l.length + 9), ?_, ?_, .inl rfl, Nat.le_refl _, ?_⟩
    · rw [← hW0]; exact ka f2 _
    · rw [← hW0, List.append_nil]; exact ho2.lift (bA (b0 _) _)
    · rw [← hW0]; exact bA hB2 _
  have hB0 : W0.heap[w2.heap.size]? = some (.cells #[.int .u64 (fold n : Int)] 138 (0, 0)) := by
    rw [← hW0]; exact na w2 _ _
  clear hW0 ho2 zX1 zX2 zX3 zv1 zv2 zv3 f2
  refine wp_rangeFunc_seqB rfl (enters_of Tryz.func127 (by kernel_rfl) rfl) (Bs := w2.heap.size) (by omega) (bytes_seq w2.heap.size (fold n) (fold_lt h0 h1) W0 hB0) (fun _ => rfl)
    (puI w W0 l) (fun _ _ _ => False) (fun s X Y h hb => h.below hb) (fun s X Y h ht => h.turned ht rfl (by omega)) (fun _ _ _ _ h _ => h) (fun _ _ _ _ h _ => h) (fun _ _ _ => trivial) (fun s X Y h hx => h.exc hx (by omega) (by omega)) hI0 ?round ?done ?stop
  case round =>
    rintro l' pre x W K rfl hl2 hi hlen hK
    have e1 : encY x = #[.int .u8 x] := rfl
    rw [e1]
    gi_wp2
    refine hK _ _ (b0 _) ?_
    clear hK
    intro W₂ hT
    obtain ⟨v, i1, i2, i3, i4, i5⟩ := hi.turned hT rfl (by omega)
    have hkeep : Hid (∀ k, k < W0.heap.size + 2 → k ≠ w.heap.size → v.ownBlock ≠ some k) := hide fun k q1 q2 e => by
      rcases i3 with i3 | ⟨k', i3, hk'⟩ <;> rw [i3] at e <;> injection e with e <;> omega
    have I3 := hide i3
    clear i3
    have HSZ := hide hT.size
    obtain ⟨z1, z2, z3⟩ := rcell i1
    have k1 : (l ++ pre).length + [x].length ≤ 1048576 := by simp; omega
    have kB : w.heap.size ≤ (W₂.alloc (.cells #[.int .u8 x] 5)).heap.size := by simp; omega
    have kW : W0.heap.size + 2 ≤ W₂.heap.size := by have := HSZ.out; omega
    have KT := hide hT
    clear hT
    gi_wp2_with (gi_at_builtin; refine wpListIn_pushC rfl _ _ 30 rfl 1 Tryz.underlying30 byte_info (by decide) w.heap.size _ (l ++ pre) [x] _ _ rfl rfl (i2.lift (bA (b0 _) _)) (CR.oneI (T := 5) _ _).inC k1 kB ?_; intro v1 w5 ho5 hg5 hn5; have HB5 := hide (((bA (b0 W₂) (.cells #[.int .u8 x] 5)).mono (show w.heap.size ≤ W₂.heap.size by omega)).grown hg5 kB i2.lt); have HQ5 := hide (show ∀ k, k < W0.heap.size + 2 → k ≠ w.heap.size → w5.heap[k]? = W₂.heap[k]? from fun k q1 q2 => (hg5.block k (by simp; omega) (fun e => hkeep.out k q1 q2 e.symm)).trans ((bA (b0 W₂) (.cells #[.int .u8 x] 5)).block k (by omega))); have HS5 := hide hg5.size; have f5 := (HQ5.out _ (by omega) (by omega)).trans i1; obtain ⟨y1, y2, y3⟩ := rcell f5; have HO5 := hide ho5; have HN5 := hide hn5; obtain ⟨A5, c5, rfl, hr5⟩ := ho5.cr; clear hr5 ho5 hg5 hn5)
    rw [row1 f5]
    generalize hT6 : setRow w5 _ _ = w6
    obtain ⟨hx6, f6⟩ := fin_x (b0 _) f5 hT6
    have hs5 : W₂.heap.size ≤ w5.heap.size := by have := HS5.out; simp at this; omega
    have hq : ∀ k, k < W0.heap.size + 2 → k ≠ w.heap.size → k ≠ w.heap.size + 1 → w6.heap[k]? = W₂.heap[k]? := fun k q1 q2 h3 => (hx6.other k (by omega) h3).trans (HQ5.out k q1 q2)
    refine ⟨⟨Nat.le_trans hs5 hx6.size, hq _ (by omega) (by omega) (by omega), hq _ (by omega) (by omega) (by omega)⟩, hq _ (by omega) (by omega) (by omega), _, f6, ?_, ?_, ?_, ?_⟩
    · have hne : (Value.slice A5 (l ++ pre ++ [x]).length c5).ownBlock ≠ some (w.heap.size + 1) := by
        intro e
        rcases HN5.out with h | h
        · rw [h] at e
          exact hkeep.out _ (by omega) (by omega) e
        · rw [h] at e
          injection e with e
          simp at e
          omega
      have := HO5.out.keepsX hx6 hne
      rw [List.append_assoc] at this
      simpa using this
    · have h8 : (Value.slice A5 (l.length + (pre.length + 1)) c5).ownBlock = (Value.slice A5 (l ++ pre ++ [x]).length c5).ownBlock := by
        congr 2
        simp
      rw [h8]
      rcases HN5.out with h | h
      · rw [h]; exact I3.out
      · exact .inr ⟨_, h, by simp; omega⟩
    · exact Nat.le_trans (by omega) hx6.size
    · exact bX (i5.trans HB5.out) hx6 (by omega)
  case done =>
    rintro D xs W hD hS hi hK
    subst hS
    obtain ⟨v, i1, i2, i3, i4, i5⟩ := hi
    obtain ⟨A', c', rfl, hr⟩ := i2.cr
    obtain ⟨z1, z2, z3⟩ := rcell i1
    obtain ⟨u, hu⟩ : ∃ u, u = l ++ ub (fold n) := ⟨_, rfl⟩
    rw [← hu] at i1 hr z1
    have HK := hide hK
    have HU := hide hu
    clear hu hK i2 i3
    go_wp2_with fail
    rw [rounds_succ]
    go_wp2_with fail
    have hp := turned_put W D (.deferred none)
    refine marks_ret rfl HK.out (v := .slice A' u.length c') (by simp [results, Tryz.results78, go_sem]; try rfl) ⟨A', c', by rw [HU.out], by rw [← HU.out]; exact hr.keepsD hp HK.out, i5.trans (hp.low (by omega))⟩
  case stop =>
    rintro D c' pre W hD _ hf hK
    exact hf.elim

theorem vary_PutU (A : Option Addr) (c n : Nat) (l : List Int) (N : Nat) (hn : n = l.length) (hN : N < 18446744073709551616) (hl : l.length ≤ 524288) (w : World) (hR : YR w A c l) :
    Calls Tryz.prog 54 #[.slice A n c, .int .u64 (N : Int)] w fun e w' => ∃ A' c' n', e = .returned (.slice A' n' c') ∧ Hid (n' = (l ++ ub N).length) ∧ YR w' A' c' (l ++ ub N) ∧ Below w.heap.size w w' := by
  subst hn
  go_enter Tryz.func54, Tryz.ntmps54
  go_wp2_with fail
  refine (vary_putsU A c l N w.heap.size hN hl _ (hR.below (bA (b0 w) _)) (na w _ _)).mono ?_
  rintro e w1 ⟨A', c', rfl, hy, hb⟩
  go_wp2
  go_ret
  exact ⟨A', c', _, rfl, hide (by rw [List.length_append]), hy, bB (bA (b0 w) _) hb⟩
theorem vary_Put (A : Option Addr) (c m : Nat) (l : List Int) (n : Int) (hm : m = l.length) (h0 : -9223372036854775808 ≤ n) (h1 : n ≤ 9223372036854775807) (hl : l.length ≤ 524288) (w : World) (hR : YR w A c l) :
    Calls Tryz.prog 56 #[.slice A m c, .int .i64 n] w fun e w' => ∃ A' c' n', e = .returned (.slice A' n' c') ∧ Hid (n' = (l ++ ub (fold n)).length) ∧ YR w' A' c' (l ++ ub (fold n)) ∧ Below w.heap.size w w' := by
  subst hm
  go_enter Tryz.func56, Tryz.ntmps56
  go_wp2_with fail
  refine (vary_putsS A c l n w.heap.size h0 h1 hl _ (hR.below (bA (b0 w) _)) (na w _ _)).mono ?_
  rintro e w1 ⟨A', c', rfl, hy, hb⟩
  go_wp2
  go_ret
  exact ⟨A', c', _, rfl, hide (by rw [List.length_append]), hy, bB (bA (b0 w) _) hb⟩
end Go.Proofs.YtmpfbkeamihjbaaGreat
