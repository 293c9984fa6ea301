/- yearbookref10.Cut at this program. -/
import Derived.Test.YtpimkigbdjfjoaaDoorLawA4
import Derived.Deep.RegionHeld3
import Derived.Deep.RegionLaw
import Derived.Deep.AppendLies
set_option linter.unusedSimpArgs false
set_option linter.unusedVariables false
namespace Go.Proofs.YtpimkigbdjfjoaaDoor
open Go.RowKit
attribute [local go_sem] Oper.semAt_some

theorem okB_of {l : List Bd} (h0 : 0 < l.length) (h1 : l.length ≤ 256) (h : okF (-1) l = true) : okB l = true := by
  unfold okB
  rw [h, decide_eq_true h0, decide_eq_true h1]; rfl

theorem Own.drew {B : Nat} {w : World} {v : Value} {l : List Nat} (h : Own B w v l) : Own B w.drew v l := h
theorem Rd.drew {w : World} {A : Option Addr} {c : Nat} {l : List Nat} (h : Rd w A c l) : Rd w.drew A c l := ⟨h.cap, h.mem⟩
theorem step_pushI {ops : Array Oper} {o : Oper} {a : Act} {w : World} {K : Act → World → Prop} {Q : Exit → Act → World → Prop} {E : Prop} (hgd : o.guard = none) (s x : Operand)
    (ho : o.op = .call { callee := .builtin .append, args := #[s, x], argTypes := #[46, 46] }) (B : Nat) (v : Value) (l m : List Nat) (A : Option Addr) (c : Nat)
    (hs : a.eval s = v) (hx : a.eval x = .slice A m.length c) (hown : Own B w v l) (hr : Rd w A c m) (hlen : l.length + m.length ≤ 4096) (hB : B ≤ w.heap.size)
    (h : ∀ v' w', Own B w' v' (l ++ m) → w.grownBy w' v.ownBlock → K (a.put o.dst v') w') : if Region.wanted o (yielded ops a.tmps) = true then Oper.wp Tryd.prog o a w K Q else E := by
  have hw : Region.wanted o (yielded ops a.tmps) = true := by simp [Region.wanted, hgd]
  rw [if_pos hw]
  obtain ⟨v', w', hrun, h2, h3⟩ := push_run w o.type hown hr hlen hB
  unfold Oper.wp execOp
  simp only [ho, resolve, invoke, builtin, Sem.run_bind, Sem.run_pure, Result.andThen_ok, List.map_toArray, List.map_cons, List.map_nil, hs, hx, hrun]
  exact h v' w' h2 h3

set_option maxRecDepth 100000 in
set_option maxHeartbeats 2000000 in
theorem ref10_Cut (A : Option Addr) (c : Nat) (l : List Bd) (h : okB l = true) (w : World) (hR : BR w A c l) :
    Calls Tryd.prog 26 #[.slice A l.length c] w fun e w' => ∃ A' c', e = .returned (.slice A' (cutsS l).length c') ∧ Rd w' A' c' (cutsS l) ∧ Below w.heap.size w w' := by
  obtain ⟨k0, k1, k2⟩ := okB_spec h
  go_enter Tryd.func26, Tryd.ntmps26
  go_wp2_with fail
  go_loopw [0, 3] (fun v0 v3 wr => ∃ (m : Nat) (A' : Option Addr) (c' : Nat) (ns : List Nat), v0 = .slice A' (l.drop m).length c' ∧ BR w A' c' (l.drop m) ∧ Own w.heap.size wr v3 ns ∧ Hid (cutsS l = ns ++ cutsS (l.drop m)) ∧ Hid (ns.length ≤ m ∧ m ≤ l.length) ∧ Below w.heap.size w wr) (fun v0 _ _ => lenS v0)
  case atStart => exact ⟨0, A, c, [], rfl, hR, Own.nil _ _, hide rfl, hide ⟨Nat.le_refl _, Nat.zero_le _⟩, b0 w⟩
  case round =>
    obtain ⟨m, A', c', ns, rfl, hR', ho, hc, hm, hb⟩ := hrel
    have hl2 : (l.drop m).length ≤ 256 := by rw [List.length_drop]; omega
    have hok2 := okF_drop l (-1) (Int.le_refl _) k2 m
    have hdd := fun k => List.drop_drop (l := l) (i := k) (j := m)
    have hml : (l.drop m).length = l.length - m := List.length_drop
    generalize l.drop m = r at *
    have HDD := hide hdd
    have HML := hide hml
    have HOK := hide hok2
    clear hdd hml hok2
    by_cases hd : 0 < r.length
    · have c2 := ref10_Longest A' c' r (okB_of hd hl2 HOK.out)
      have hcc := cutsS_cons hd
      have hn0 := firstS_pos hd
      have hnl := (firstS_is r).le
      generalize firstS r = n at *
      have HCC := hide hcc
      clear hcc
      go_wp2_with fail
      refine (c2 _ (hR'.below hb)).mono ?_
      rintro e w1 ⟨rfl, hb1⟩
      have HB1 := bB hb hb1
      have ho1 := ho.lift hb1
      have hcap := hR'.cap
      clear hb1 ho c2
      go_wp2_with fail
      have k1 : ns.length + [n].length ≤ 4096 := by have := hm.out; simp; omega
      by_cases hcn : c' = n
      · have hR5 := hR'.drop n hnl hcap (Nat.le_refl _)
        rw [if_pos hcn, hcn, Nat.sub_self] at hR5
        go_region_law (refine step_pushI (by rfl) _ _ (by rfl) w.heap.size u3 ns [n] (some ⟨w1.heap.size, 0, none⟩) 1 (by rfl) (by rfl) (Own.drew (ho1.lift (bA (b0 w1) (.cells #[.int .i64 n] 3)))) (Rd.drew (Rd.oneI w1 n n rfl)) k1 (by simp; have := HB1.size; omega) ?_; intro v2 w2 ho2 hg2)
        have HB2 := hide ((bA HB1 (.cells #[.int .i64 n] 3)).drew.grown hg2 (by simp; have := HB1.size; omega) ho1.lt)
        have HO2 := hide ho2
        have HR5 := hide hR5
        have hdr := HDD.out n
        clear hg2 ho2 ho1 HB1 hR5 hR' hb
        simp only [List.getElem_toArray, List.getElem_cons_succ, List.getElem_cons_zero, Act.put, List.setIfInBounds_toArray, List.set_cons_zero, List.set_cons_succ]
        have hA : cutsS l = (ns ++ [n]) ++ cutsS (l.drop (m + n)) := by rw [hc.out, HCC.out, ← hdr, List.append_assoc]; rfl
        have hB : (ns ++ [n]).length ≤ m + n ∧ m + n ≤ l.length := by
          have h1 := hm.out
          have h2 := HML.out
          rw [List.length_append]
          simp
          omega
        have HA := hide hA
        have HBB := hide hB
        clear hA hB
        go_wp2
        go_roundw
        case rel => exact ⟨m + n, _, _, ns ++ [n], by rw [← hdr]; congr 1 <;> (rw [List.length_drop] <;> omega), by rw [← hdr]; exact HR5.out, HO2.out, HA, HBB, HB2.out⟩
        case measure => simp only [lenS]; omega
      · have hR5 := hR'.drop n hnl hcap (Nat.le_refl _)
        rw [if_neg hcn] at hR5
        go_region_law (refine step_pushI (by rfl) _ _ (by rfl) w.heap.size u3 ns [n] (some ⟨w1.heap.size, 0, none⟩) 1 (by rfl) (by rfl) (Own.drew (ho1.lift (bA (b0 w1) (.cells #[.int .i64 n] 3)))) (Rd.drew (Rd.oneI w1 n n rfl)) k1 (by simp; have := HB1.size; omega) ?_; intro v2 w2 ho2 hg2)
        have HB2 := hide ((bA HB1 (.cells #[.int .i64 n] 3)).drew.grown hg2 (by simp; have := HB1.size; omega) ho1.lt)
        have HO2 := hide ho2
        have HR5 := hide hR5
        have hdr := HDD.out n
        clear hg2 ho2 ho1 HB1 hR5 hR' hb
        simp only [List.getElem_toArray, List.getElem_cons_succ, List.getElem_cons_zero, Act.put, List.setIfInBounds_toArray, List.set_cons_zero, List.set_cons_succ]
        have hA : cutsS l = (ns ++ [n]) ++ cutsS (l.drop (m + n)) := by rw [hc.out, HCC.out, ← hdr, List.append_assoc]; rfl
        have hB : (ns ++ [n]).length ≤ m + n ∧ m + n ≤ l.length := by
          have h1 := hm.out
          have h2 := HML.out
          rw [List.length_append]
          simp
          omega
        have HA := hide hA
        have HBB := hide hB
        clear hA hB
        go_wp2
        go_roundw
        case rel => exact ⟨m + n, _, _, ns ++ [n], by rw [← hdr]; congr 1 <;> (rw [List.length_drop] <;> omega), by rw [← hdr]; exact HR5.out, HO2.out, HA, HBB, HB2.out⟩
        case measure => simp only [lenS]; omega
    · obtain rfl : r = [] := List.eq_nil_of_length_eq_zero (by omega)
      have hcf := hc.out
      rw [cutsS_nil (l := []) (by simp), List.append_nil] at hcf
      have HC := hide hcf
      clear hcf hc hd
      go_wp2
      go_ret
      rw [HC.out]
      obtain ⟨A2, c2, rfl, hr⟩ := ho.rd
      exact ⟨A2, c2, rfl, hr, hb⟩
end Go.Proofs.YtpimkigbdjfjoaaDoor
