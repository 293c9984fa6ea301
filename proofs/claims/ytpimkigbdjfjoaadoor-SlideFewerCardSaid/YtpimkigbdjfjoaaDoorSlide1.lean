/- (fit).lets at this program: the iterator. -/
import Derived.Test.YtpimkigbdjfjoaaDoorSlideM
import Derived.Test.YtpimkigbdjfjoaaDoorP8
set_option linter.unusedSimpArgs false
set_option linter.unusedVariables false
namespace Go.Proofs.YtpimkigbdjfjoaaDoor
open Go.RowKit
attribute [local go_sem] Oper.semAt_some

def encS (x : Sl × Sl) : Array Value := #[.agg #[.int .i64 x.1.n, .int .i64 x.1.d, .int .i64 x.2.n, .int .i64 x.2.d]]
def lt2 (l : List Bd) (b : Bd) (i : Nat) : Sl × Sl := (lo2 (bd l i) b, hi2 (bd l i) b)

set_option maxRecDepth 100000 in
theorem slide_lets (g : Nat) (bt bl bh : Int) (w : World) :
    Calls Tryd.prog 120 #[.pointer (some ⟨g, 0, none⟩), .agg #[.int .i64 bt, .int .i64 bl, .int .i64 bh]] w fun e w' => e = .returned (.func (Fn.func 128) #[] #[.pointer (some ⟨w.heap.size, 0, none⟩), .pointer (some ⟨w.heap.size + 1, 0, none⟩)]) ∧
      w' = (w.alloc (.cells #[.pointer (some ⟨g, 0, none⟩)] 76)).alloc (.cells #[.int .i64 bt, .int .i64 bl, .int .i64 bh] 37) := by
  go_enter Tryd.func120, Tryd.ntmps120
  go_wp2
  go_ret
  exact ⟨rfl, rfl⟩

set_option maxRecDepth 100000 in
set_option maxHeartbeats 2000000 in
theorem lets_seq (pf pb g c : Nat) (A : Option Addr) (l : List Bd) (b : Bd) (s0 s1 s2 s3 : Value) (hl : l.length ≤ 256)
    (hb : ∀ i, i < l.length → (0 ≤ (bd l i).t ∧ (bd l i).t ≤ 281474976710656) ∧ (-2305844108725321728 ≤ (bd l i).lo ∧ (bd l i).lo ≤ 2305844108725321728) ∧ (-2305844108725321728 ≤ (bd l i).hi ∧ (bd l i).hi ≤ 2305844108725321728))
    (hb1 : 0 ≤ b.t ∧ b.t ≤ 281474976710656) (hb2 : -2305844108725321728 ≤ b.lo ∧ b.lo ≤ 2305844108725321728) (hb3 : -2305844108725321728 ≤ b.hi ∧ b.hi ≤ 2305844108725321728)
    (w : World) (hpf : w.heap[pf]? = some (.cells #[.pointer (some ⟨g, 0, none⟩)] 76 (0, 0)))
    (hg : w.heap[g]? = some (.cells #[s0, s1, s2, s3, .slice A l.length c] 78 (0, 0))) :
    SeqU Tryd.prog 128 #[.pointer (some ⟨pf, 0, none⟩), .pointer (some ⟨pb, 0, none⟩)] encS (fun W => BR W A c l ∧ W.heap[pb]? = some (.cells #[.int .i64 b.t, .int .i64 b.lo, .int .i64 b.hi] 37 (0, 0)))
      (fun xs => xs = upto (lt2 l b) l.length) (fun pre => ∃ k, k < l.length ∧ pre = upto (lt2 l b) (k + 1)) l.length w := by
  intro l' J Jx W hW hl' hJ hJx hJr hY hJ0
  have hF := (hW.block _ (rcell hpf).2.2).trans hpf
  have hG := (hW.block _ (rcell hg).2.2).trans hg
  obtain ⟨zf1, zf2, zf3⟩ := rcell hF
  obtain ⟨zg1, zg2, zg3⟩ := rcell hG
  clear hW hpf hg
  have HB := hide hb
  clear hb
  refine callsIn_of_wp Tryd.func128 rfl trivial ?_ rfl
  simp only [Tryd.ntmps128, List.size_toArray, List.length_cons, List.length_nil, Nat.reduceAdd, Nat.reduceSub, Array.replicate_succ, Array.replicate_zero, List.push_toArray, List.append_toArray, List.nil_append, List.cons_append]
  gi_wp2
  gi_loopw [12] (fun vi wr => ∃ k : Nat, vi = .int .i64 k ∧ k ≤ l.length ∧ W.heap.size ≤ wr.heap.size ∧ J (upto (lt2 l b) k) wr) (fun vi _ => l.length - (intOf vi).toNat)
  case atStart => exact ⟨0, rfl, by omega, Nat.le_refl _, hJ0⟩
  case round =>
    obtain ⟨k, rfl, hk, hsz, hj⟩ := hrel
    by_cases hlt : k < l.length
    · obtain ⟨g', o', rfl, z1, z2, z3⟩ := (hJr _ _ hj).1.at_ hlt
      have hpb := (hJr _ _ hj).2
      obtain ⟨y1, y2, y3⟩ := rcell hpb
      rw [bd_eq hlt] at z1 z2 z3
      obtain ⟨r1, r2, r3⟩ := HB.out k hlt
      have hYk := hY (upto (lt2 l b) k) (lt2 l b k) (wr.alloc (.cells #[.int .i64 (bd l k).t, .int .i64 (bd l k).lo, .int .i64 (bd l k).hi] 37)) (hJ _ _ _ hj ((b0 wr).mono hsz |>.alloc hsz _)) (by rw [World.size_alloc]; omega) (by rw [upto_length]; exact hlt)
      rw [← upto_succ] at hYk
      have ezl : encS (lt2 l b k) = #[.agg #[.int .i64 (b.lo - (bd l k).hi), .int .i64 (b.t - (bd l k).t), .int .i64 (b.hi - (bd l k).lo), .int .i64 (b.t - (bd l k).t)]] := rfl
      rw [ezl] at hYk
      clear ezl hY
      generalize bd l k = a at *
      obtain ⟨at', al, ah⟩ := a
      obtain ⟨bt, bl, bh⟩ := b
      simp only at z1 z2 z3 r1 r2 r3 y1 y2 hb1 hb2 hb3 hpb hYk
      obtain ⟨fn, tmps, assign, body, hy, hR⟩ := hYk
      have e1 := IntWalk.i64_in (bl - ah) (by omega)
      have e2 := IntWalk.i64_in (bt - at') (by omega)
      have e3 := IntWalk.i64_in (bh - al) (by omega)
      gi_wp2
      refine hR.mono ?_
      clear hR hy
      rintro e W3 (⟨rfl, hj3, hu3⟩ | ⟨rfl, hjx3⟩)
      · have hs3 := hu3.size
        rw [World.size_alloc] at hs3
        gi_wp2
        go_roundw
        case rel => exact ⟨k + 1, by go_num, by omega, by omega, hj3⟩
        case measure => simp [intOf]; omega
      · gi_wp2
        refine bodyPost_ret (results_none rfl _ _ _) rfl ⟨⟨_, rfl⟩, .inr ⟨_, ⟨k, hlt, rfl⟩, hjx3⟩⟩
    · obtain rfl : k = l.length := by omega
      clear hY
      gi_wp2
      go_end0
      exact ⟨⟨_, rfl⟩, .inl ⟨_, rfl, hj⟩⟩
end Go.Proofs.YtpimkigbdjfjoaaDoor
