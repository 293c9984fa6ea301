/- The walk of SlideLeast (yearbooklaw10). -/
import Derived.Test.YtpimkigbdjfjoaaDoorPiece
set_option linter.unusedSimpArgs false
set_option linter.unusedVariables false
namespace Go.Proofs.YtpimkigbdjfjoaaDoor
open Go.RowKit
variable {ta : TypeId}
attribute [local go_sem] Oper.semAt_some

theorem cutsS_piece {r : List Bd} (h : okF (-1) r = true) {n : Nat} (hl : Lets (r.take n)) : (cutsS r).length ≤ (cutsS (r.drop n)).length + 1 :=
  cutsS_least _ h ⟨n, hl, cutsS_parts _ (okF_drop r (-1) (Int.le_refl _) h n)⟩

set_option maxRecDepth 100000 in
set_option maxHeartbeats 2000000 in
theorem least_1 (X Y : Option Addr) (C K : Nat) (xs ys : List Bd) (ps : List Pc) (w : World) (hall : w.heap[0]? = some (.cells all4 ta (0, 0)))
    (c1 : ∀ w', Below w.heap.size w w' → Calls Tryd.prog 12 #[.slice X xs.length C, .int .i64 256] w' fun e w'' => ∃ A c, e = .returned (.slice A ys.length c) ∧ BR w'' A c ys ∧ Below w'.heap.size w' w'')
    (c2 : ∀ A c w, BR w A c ys → Calls Tryd.prog 27 #[.slice A ys.length c] w fun e w' => e = .returned (.int .i64 180) ∧ Below w.heap.size w w') :
    Calls Tryd.prog 7 #[.slice X xs.length C, .slice Y ps.length K] w fun e w' => e = .returned (.bool true) ∧ Below w.heap.size w w' := by
  have hw := fun w (ha : w.heap[0]? = some (.cells all4 ta (0, 0))) => wakesA w ha
  go_enter Tryd.func7, Tryd.ntmps7
  obtain ⟨za_a, za_b, la0⟩ := rcell hall
  go_wp2_with fail
  refine (hw _ (hall)).mono ?_
  rintro e w1 ⟨rfl, hb1⟩
  have f_a1 := kp hb1 (hall)
  have hB1 := bB (b0 w) hb1
  clear za_a za_b
  obtain ⟨za_a, za_b, la1⟩ := rcell f_a1
  go_wp2_with fail
  refine (c1 _ hB1).mono ?_
  rintro e wo ⟨A, c, rfl, hR, hbo⟩
  have hBo := bB hB1 hbo
  clear hbo
  go_wp2_with fail
  refine (c2 _ _ _ hR).mono ?_
  rintro e w2 ⟨rfl, hb2⟩
  have hB2 := bB hBo hb2
  go_wp2
  go_ret
  exact ⟨rfl, hB2⟩

set_option maxRecDepth 100000 in
set_option maxHeartbeats 4000000 in
theorem least_2 (X Y : Option Addr) (C K kk : Nat) (xs ys : List Bd) (ps : List Pc) (hkk : Hid ((cutsS ys).length = kk)) (hok : Hid (okF (-1) ys = true)) (h1 : ys.length ≤ 256) (hKp : ps.length ≤ 9223372036854775807) (hp : Hid (∀ i (hi : i < ps.length), PcOk ps[i])) (w : World) (hall : w.heap[0]? = some (.cells all4 ta (0, 0))) (hY : InP w Y ps)
    (c1 : ∀ w', Below w.heap.size w w' → Calls Tryd.prog 12 #[.slice X xs.length C, .int .i64 256] w' fun e w'' => ∃ A c, e = .returned (.slice A ys.length c) ∧ BR w'' A c ys ∧ Below w'.heap.size w' w'')
    (c2 : ∀ A c w, BR w A c ys → Calls Tryd.prog 27 #[.slice A ys.length c] w fun e w' => e = .returned (.int .i64 0) ∧ Below w.heap.size w w')
    (c4 : ∀ A c w, w.heap[0]? = some (.cells all4 ta (0, 0)) → BR w A c ys → Calls Tryd.prog 23 #[.slice A ys.length c] w fun e w' => ∃ A' c', e = .returned (.tuple #[.slice A' kk c', .int .i64 0]) ∧ Below w.heap.size w w') :
    Calls Tryd.prog 7 #[.slice X xs.length C, .slice Y ps.length K] w fun e w' => e = .returned (.bool true) ∧ Below w.heap.size w w' := by
  have hw := fun w (ha : w.heap[0]? = some (.cells all4 ta (0, 0))) => wakesA w ha
  have HY := hide hY
  clear hY
  go_enter Tryd.func7, Tryd.ntmps7
  obtain ⟨za_a, za_b, la0⟩ := rcell hall
  go_wp2_with fail
  refine (hw _ (hall)).mono ?_
  rintro e w1 ⟨rfl, hb1⟩
  have f_a1 := kp hb1 (hall)
  have hB1 := bB (b0 w) hb1
  clear za_a za_b
  obtain ⟨za_a, za_b, la1⟩ := rcell f_a1
  go_wp2_with fail
  refine (c1 _ hB1).mono ?_
  rintro e wo ⟨A, c, rfl, hR, hbo⟩
  have hBo := bB hB1 hbo
  have f_ao := kp hbo f_a1
  clear hbo
  obtain ⟨za_a, za_b, la2⟩ := rcell f_ao
  go_wp2_with fail
  refine (c2 _ _ _ hR).mono ?_
  rintro e w3 ⟨rfl, hb3⟩
  have f_a3 := kp hb3 (f_ao)
  have rd_b3 := hR.below hb3
  have hB3 := bB hBo hb3
  clear za_a za_b
  obtain ⟨za_a, za_b, la3⟩ := rcell f_a3
  go_wp2_with fail
  refine (c4 _ _ _ (f_a3) rd_b3).mono ?_
  rintro e wc ⟨A4, k4, rfl, hbc⟩
  have hBc := bB hB3 hbc
  have hRc := (rd_b3).below hbc
  clear c1 c2 c4 hw hbc
  go_wp2_with fail
  go_loopw [8, 9, 29] (fun v8 v9 vj wr => ∃ (m j : Nat) (A' : Option Addr) (c' : Nat), v8 = .slice A' (ys.drop m).length c' ∧ v9 = .int .i64 j ∧ vj = .int .i64 j ∧ j ≤ ps.length ∧ BR wr A' c' (ys.drop m) ∧ Hid (kk ≤ j + (cutsS (ys.drop m)).length) ∧ Hid (m ≤ ys.length) ∧ Below w.heap.size w wr) (fun _ _ vj _ => ps.length - (intOf vj).toNat)
  case atStart => exact ⟨0, 0, A, c, rfl, rfl, rfl, by omega, hRc, hide (by have := hkk.out; simp; omega), hide (Nat.zero_le _), hBc⟩
  case round =>
    clear hRc hR hB1 hBc hBo
    obtain ⟨m, j, A', c', rfl, rfl, rfl, hj, hR', hkj, hm, hb⟩ := hrel
    have hl2 : (ys.drop m).length ≤ 256 := by rw [List.length_drop]; omega
    have hok2 := okF_drop ys (-1) (Int.le_refl _) hok.out m
    have hdd := fun k => List.drop_drop (l := ys) (i := k) (j := m)
    have hml : (ys.drop m).length = ys.length - m := List.length_drop
    generalize ys.drop m = r at *
    have HDD := hide hdd
    have HML := hide hml
    have HOK := hide hok2
    clear hdd hml hok2
    by_cases hlt : j < ps.length
    · obtain ⟨ad, rfl, -, -⟩ := HY.out (by omega)
      obtain ⟨zq1, zq2, zq3, zq4, zq5⟩ := inP_cells (HY.out.below hb) j hlt
      have hpj := hp.out j hlt
      rw [pc_eq hlt] at hpj
      obtain ⟨⟨g1, g2⟩, ga, gr, gm, gd⟩ := hpj
      generalize pc ps j = q at *
      obtain ⟨qn, qa, qr, qm, qd⟩ := q
      simp only at zq1 zq2 zq3 zq4 zq5 g1 g2 ga gr gm gd
      have hjj : j ≤ 9223372036854775806 := by omega
      by_cases hr0 : 0 < r.length
      · have hcap := hR'.cap
        have hRr := hide hR'
        go_wp2_with fail
        by_cases b1 : qn < 1
        · skip
          have f_q4 := (na wr #[.int .i64 qn, .int .i64 qa, .int .i64 qr, .int .i64 qm, .int .i64 qd] 63)
          have hB4 := (bA hb (.cells #[.int .i64 qn, .int .i64 qa, .int .i64 qr, .int .i64 qm, .int .i64 qd] 63))
          have lq4 := (rcell f_q4).2.2
          refine Abs.wp_region_abs (Abs.cls0 _) [0, 1, 2, 3, 4, 5, 6, 7, 8, 9, 10, 11, 12, 13, 14, 15, 16, 17, 18, 19, 20, 21, 22, 23, 24, 25] (by kernel_rfl) (by kernel_rfl) (Below.refl _ _).drew ?_
          repeat (first | (refine Abs.step_pure rfl rfl (fun K hK => ?_); go_simp; (try go_bits); (first | refine hK _ _ ?_ | (simp only [↓IntWalk.iteOmega]; go_simp; (try go_bits); refine hK _ _ ?_)); clear hK K) | (refine Abs.step_load (v := ?_) rfl rfl (by kernel_rfl) rfl (fun w0 hI => ?_) (fun K hK => ?_); rotate_left; (· have z0 := (rcell (kp hI (f_q4))).1; go_simp; rfl); (simp only [Act.put, List.setIfInBounds_toArray, List.set_cons_zero, List.set_cons_succ]; refine hK _ _ ?_; clear hK K)) | (refine Abs.step_skip rfl rfl (fun K hK => ?_); (simp only [Act.put, List.setIfInBounds_toArray, List.set_cons_zero, List.set_cons_succ]; refine hK _ _ ?_; clear hK K)))
          intro w5 hb5 hx0 hx1 hx2
          clear hx0 hx1 hx2
          simp only [Abs.T_setF, Abs.T_addA, Abs.T_push, Abs.T_start]
          have f_q5 := kp hb5 (f_q4)
          have hB5 := bB hB4 hb5
          obtain ⟨zq_a, zq_b, lq5⟩ := rcell f_q5
          go_wp2
          go_ret
          exact ⟨rfl, hB5⟩
        · obtain ⟨n, rfl⟩ : ∃ n : Nat, qn = n := ⟨qn.toNat, by omega⟩
          by_cases b2 : r.length < n
          · have b2' : (r.length : Int) < (n : Int) := by omega
            have f_q4 := (na wr #[.int .i64 n, .int .i64 qa, .int .i64 qr, .int .i64 qm, .int .i64 qd] 63)
            have hB4 := (bA hb (.cells #[.int .i64 n, .int .i64 qa, .int .i64 qr, .int .i64 qm, .int .i64 qd] 63))
            have lq4 := (rcell f_q4).2.2
            refine Abs.wp_region_abs (Abs.cls0 _) [0, 1, 2, 3, 4, 5, 6, 7, 8, 9, 10, 11, 12, 13, 14, 15, 16, 17, 18, 19, 20, 21, 22, 23, 24, 25] (by kernel_rfl) (by kernel_rfl) (Below.refl _ _).drew ?_
            repeat (first | (refine Abs.step_pure rfl rfl (fun K hK => ?_); go_simp; (try go_bits); (first | refine hK _ _ ?_ | (simp only [↓IntWalk.iteOmega]; go_simp; (try go_bits); refine hK _ _ ?_)); clear hK K) | (refine Abs.step_load (v := ?_) rfl rfl (by kernel_rfl) rfl (fun w0 hI => ?_) (fun K hK => ?_); rotate_left; (· have z0 := (rcell (kp hI (f_q4))).1; go_simp; rfl); (simp only [Act.put, List.setIfInBounds_toArray, List.set_cons_zero, List.set_cons_succ]; refine hK _ _ ?_; clear hK K)) | (refine Abs.step_skip rfl rfl (fun K hK => ?_); (simp only [Act.put, List.setIfInBounds_toArray, List.set_cons_zero, List.set_cons_succ]; refine hK _ _ ?_; clear hK K)))
            intro w5 hb5 hx0 hx1 hx2
            clear hx0 hx1 hx2
            simp only [Abs.T_setF, Abs.T_addA, Abs.T_push, Abs.T_start]
            have f_q5 := kp hb5 (f_q4)
            have hB5 := bB hB4 hb5
            obtain ⟨zq_a, zq_b, lq5⟩ := rcell f_q5
            go_wp2
            go_ret
            exact ⟨rfl, hB5⟩
          · have b2' : ¬ (r.length : Int) < (n : Int) := by omega
            by_cases b3 : qd < 1
            · skip
              have f_q4 := (na wr #[.int .i64 n, .int .i64 qa, .int .i64 qr, .int .i64 qm, .int .i64 qd] 63)
              have hB4 := (bA hb (.cells #[.int .i64 n, .int .i64 qa, .int .i64 qr, .int .i64 qm, .int .i64 qd] 63))
              have lq4 := (rcell f_q4).2.2
              refine Abs.wp_region_abs (Abs.cls0 _) [0, 1, 2, 3, 4, 5, 6, 7, 8, 9, 10, 11, 12, 13, 14, 15, 16, 17, 18, 19, 20, 21, 22, 23, 24, 25] (by kernel_rfl) (by kernel_rfl) (Below.refl _ _).drew ?_
              repeat (first | (refine Abs.step_pure rfl rfl (fun K hK => ?_); go_simp; (try go_bits); (first | refine hK _ _ ?_ | (simp only [↓IntWalk.iteOmega]; go_simp; (try go_bits); refine hK _ _ ?_)); clear hK K) | (refine Abs.step_load (v := ?_) rfl rfl (by kernel_rfl) rfl (fun w0 hI => ?_) (fun K hK => ?_); rotate_left; (· have z0 := (rcell (kp hI (f_q4))).1; go_simp; rfl); (simp only [Act.put, List.setIfInBounds_toArray, List.set_cons_zero, List.set_cons_succ]; refine hK _ _ ?_; clear hK K)) | (refine Abs.step_skip rfl rfl (fun K hK => ?_); (simp only [Act.put, List.setIfInBounds_toArray, List.set_cons_zero, List.set_cons_succ]; refine hK _ _ ?_; clear hK K)))
              intro w5 hb5 hx0 hx1 hx2
              clear hx0 hx1 hx2
              simp only [Abs.T_setF, Abs.T_addA, Abs.T_push, Abs.T_start]
              have f_q5 := kp hb5 (f_q4)
              have hB5 := bB hB4 hb5
              obtain ⟨zq_a, zq_b, lq5⟩ := rcell f_q5
              go_wp2
              go_ret
              exact ⟨rfl, hB5⟩
            · have hnl : n ≤ r.length := by omega
              have hn1 : 1 ≤ n := by omega
              have htk : (r.take n).length = n := by rw [List.length_take]; omega
              have cT : ∀ w, BR w A' c' r → Calls Tryd.prog 28 #[.agg #[.int .i64 qa, .int .i64 qr, .int .i64 qm, .int .i64 qd], .slice A' n c'] w fun e w' => e = .returned (.bool (rayB qa qr qm qd (bd (r.take n) 0).t (r.take n))) ∧ Below w.heap.size w w' := fun w h => by
                have := ray_through qa qr qm qd ga gr gm ⟨by omega, gd.2⟩ A' c' (r.take n) (okB_mk (by omega) (by omega) (okF_pre (-1) r n HOK.out)) w (h.take n)
                rw [htk] at this
                exact this
              have hE : Hid (rayB qa qr qm qd (bd (r.take n) 0).t (r.take n) = true → Lets (r.take n)) := hide (rayB_lets (by omega))
              generalize rayB qa qr qm qd (bd (r.take n) 0).t (r.take n) = E at *
              have hRq := hide (hRr.out.below (bA (b0 wr) (.cells #[.int .i64 n, .int .i64 qa, .int .i64 qr, .int .i64 qm, .int .i64 qd] 63)))
              have f_q4 := (na wr #[.int .i64 n, .int .i64 qa, .int .i64 qr, .int .i64 qm, .int .i64 qd] 63)
              have hB4 := (bA hb (.cells #[.int .i64 n, .int .i64 qa, .int .i64 qr, .int .i64 qm, .int .i64 qd] 63))
              have lq4 := (rcell f_q4).2.2
              refine Abs.wp_region_abs (Abs.cls0 _) [0, 1, 2, 3, 4, 5, 6, 7, 8, 9, 10, 11, 12, 13, 14, 15, 16, 17, 18, 19, 20, 21, 22, 23, 24, 25] (by kernel_rfl) (by kernel_rfl) (Below.refl _ _).drew ?_
              repeat (first | (refine Abs.step_pure rfl rfl (fun K hK => ?_); go_simp; (try go_bits); (first | refine hK _ _ ?_ | (simp only [↓IntWalk.iteOmega]; go_simp; (try go_bits); refine hK _ _ ?_)); clear hK K) | (refine Abs.step_load (v := ?_) rfl rfl (by kernel_rfl) rfl (fun w0 hI => ?_) (fun K hK => ?_); rotate_left; (· have z0 := (rcell (kp hI (f_q4))).1; go_simp; rfl); (simp only [Act.put, List.setIfInBounds_toArray, List.set_cons_zero, List.set_cons_succ]; refine hK _ _ ?_; clear hK K)) | (refine Abs.step_skip rfl rfl (fun K hK => ?_); (simp only [Act.put, List.setIfInBounds_toArray, List.set_cons_zero, List.set_cons_succ]; refine hK _ _ ?_; clear hK K)))
              (refine Abs.step_call_val (f := ?_) (args := ?_) (v := ?_) rfl rfl rfl rfl (fun w0 => ?_) (fun w0 hI => ?_) (fun K hK => ?_); rotate_left 3; (· go_simp; (constructor <;> rfl)); (· exact cT _ (hRq.out.below hI)); (simp only [Act.put, List.setIfInBounds_toArray, List.set_cons_zero, List.set_cons_succ]; refine hK _ _ ?_; clear hK K))
              repeat (first | (refine Abs.step_pure rfl rfl (fun K hK => ?_); go_simp; (try go_bits); (first | refine hK _ _ ?_ | (simp only [↓IntWalk.iteOmega]; go_simp; (try go_bits); refine hK _ _ ?_)); clear hK K) | (refine Abs.step_load (v := ?_) rfl rfl (by kernel_rfl) rfl (fun w0 hI => ?_) (fun K hK => ?_); rotate_left; (· have z0 := (rcell (kp hI (f_q4))).1; go_simp; rfl); (simp only [Act.put, List.setIfInBounds_toArray, List.set_cons_zero, List.set_cons_succ]; refine hK _ _ ?_; clear hK K)) | (refine Abs.step_skip rfl rfl (fun K hK => ?_); (simp only [Act.put, List.setIfInBounds_toArray, List.set_cons_zero, List.set_cons_succ]; refine hK _ _ ?_; clear hK K)))
              intro w5 hb5 hx0 hx1 hx2
              clear hx0 hx1 hx2
              simp only [Abs.T_setF, Abs.T_addA, Abs.T_push, Abs.T_start]
              have f_q5 := kp hb5 (f_q4)
              have hB5 := bB hB4 hb5
              obtain ⟨zq_a, zq_b, lq5⟩ := rcell f_q5
              clear cT htk b1 b3
              cases E
              · simp only [Bool.not_false]
                go_wp2
                go_ret
                exact ⟨rfl, hB5⟩
              · simp only [Bool.not_true]
                have hcp := cutsS_piece HOK.out (hE.out rfl)
                have hdr := HDD.out n
                have hKJ : Hid (kk ≤ (j + 1) + (cutsS (ys.drop (m + n))).length) := hide (by rw [← hdr]; have := hkj.out; omega)
                have hMM : Hid (m + n ≤ ys.length) := hide (by have := HML.out; have := hm.out; omega)
                clear hE hcp
                by_cases hcn : c' = n
                · have hR5 := (hRr.out.below (bB (bA (b0 wr) (.cells #[.int .i64 n, .int .i64 qa, .int .i64 qr, .int .i64 qm, .int .i64 qd] 63)) hb5)).drop n hnl hcap (Nat.le_refl _)
                  rw [if_pos hcn, hcn, Nat.sub_self, hdr] at hR5
                  have HR5 := hide hR5
                  clear hR5 hR'
                  go_wp2
                  go_roundw
                  case rel => exact ⟨m + n, j + 1, _, _, by rw [← hdr]; congr 1 <;> (rw [List.length_drop] <;> omega), by go_num, by go_num, by omega, HR5.out, hKJ, hMM, hB5⟩
                  case measure => simp [intOf]; omega
                · have hR5 := (hRr.out.below (bB (bA (b0 wr) (.cells #[.int .i64 n, .int .i64 qa, .int .i64 qr, .int .i64 qm, .int .i64 qd] 63)) hb5)).drop n hnl hcap (Nat.le_refl _)
                  rw [if_neg hcn, hdr] at hR5
                  have HR5 := hide hR5
                  clear hR5 hR'
                  go_wp2
                  go_roundw
                  case rel => exact ⟨m + n, j + 1, _, _, by rw [← hdr]; congr 1 <;> (rw [List.length_drop] <;> omega), by go_num, by go_num, by omega, HR5.out, hKJ, hMM, hB5⟩
                  case measure => simp [intOf]; omega
      · obtain rfl : r = [] := List.eq_nil_of_length_eq_zero (by omega)
        have hcf := hkj.out
        rw [cutsS_nil (l := []) (by simp)] at hcf
        have hle : kk ≤ j := by simpa using hcf
        clear hcf
        go_wp2
        go_ret
        exact ⟨by simp; try omega, bA hb _⟩
    · obtain rfl : j = ps.length := by omega
      by_cases hr0 : 0 < r.length
      · go_wp2
        go_ret
        exact ⟨rfl, hb⟩
      · obtain rfl : r = [] := List.eq_nil_of_length_eq_zero (by omega)
        have hcf := hkj.out
        rw [cutsS_nil (l := []) (by simp)] at hcf
        have hle : kk ≤ ps.length := by simpa using hcf
        clear hcf
        go_wp2
        go_ret
        exact ⟨by simp; try omega, hb⟩

theorem slide_least (X : Option Addr) (C : Nat) (xs : List Bd) (Y : Option Addr) (K : Nat) (ps : List Pc) (hn : xs.length ≤ C) (hK : ps.length ≤ 9223372036854775807) (hp : ∀ i (hi : i < ps.length), PcOk ps[i]) (w : World) (hall : w.heap[0]? = some (.cells all4 ta (0, 0))) (hX : InB w X xs) (hY : InP w Y ps) :
    Calls Tryd.prog 7 #[.slice X xs.length C, .slice Y ps.length K] w fun e w' => e = .returned (.bool true) ∧ Below w.heap.size w w' := by
  have c1 := fun w' (hb : Below w.heap.size w w') => law10_few X C 256 xs (by decide) hn w' (hX.below hb)
  have h1 : (xs.take 256).length ≤ 256 := by rw [List.length_take]; omega
  generalize xs.take 256 = ys at *
  have c2 := fun A c w hR => pmc_Check A c ys w hR
  cases h : okB ys
  · rw [chE_no h] at c2
    exact least_1 X Y C K xs ys ps w hall c1 c2
  · rw [chE_yes h] at c2
    exact least_2 X Y C K _ xs ys ps (hide rfl) (hide (okB_spec h).2.2) h1 hK (hide hp) w hall hY c1 c2 (fun A c w ha hR => (slide_Cut_yes A c ys h w ha hR).mono (by
        rintro e w' ⟨A', c', he, hr, hb⟩
        exact ⟨A', c', he, hb⟩))
end Go.Proofs.YtpimkigbdjfjoaaDoor
