/- The statement StoreFormats, as a run: it answers true, whatever the number of pages. -/
import Derived.Test.YtncmgfehlgkgdaaGreatDoorKF
import Derived.Test.YtncmgfehlgkgdaaGreatDoorKH
import Derived.Test.YtncmgfehlgkgdaaGreatDoorQF
set_option linter.unusedSimpArgs false
set_option linter.unusedVariables false
set_option linter.unusedSectionVars false
namespace Go.Proofs.Tryz
open Go.Proofs.Ex Go.RowKit

theorem wakes_is (w : World) : Calls prog 5 #[] w fun e w' => e = .returned (.bool true) ∧ Below w.heap.size w w' := by
  letI : Sg := ⟨fun _ => none⟩
  refine (Calls.ofA0 (xL2_ok xfollows xL_ok) (arun_good xfollows (xL2_ok xfollows xL_ok) 20000) w0_enter (outT_sound (arunS_good xfollows (xL1_ok xfollows xL_ok) 5 700 20000) w1_run) w2_run rfl w).mono ?_
  rintro e w' ⟨E', v', rfl, hv, hS⟩
  rw [hv.eq rfl]
  exact ⟨rfl, hS.below⟩

def f90ops : Array Oper := #[⟨some 4, .call ⟨.builtin .recover, #[], #[]⟩, 20, "store.go:72", #[], none⟩, ⟨some 2, .assign (.tmp 4), 20, "store.go:72", #[{ on := 0, ground := .data }, { on := 0, ground := .chain }, { on := 0, ground := .phase }], none⟩]
theorem f90_body : f90.body = some (.seq (.region 0 f90ops false) (subC (bodyC f90) [1])) := by kernel_rfl

set_option maxRecDepth 100000 in
theorem sfR1 (p : Int) (hp : p < 24) (w : World) : Calls prog 4 #[.int .i64 p] w fun e w' => e = .returned (.bool true) ∧ Below w.heap.size w w' := by
  letI : Sg := ⟨fun i => ([.int .i64 p] : List Value)[i]?⟩
  have hT : TabsOK prog zR1T := ⟨All.mem (.cons (EB.cm (.atom rfl rfl) (.int _ _) rfl (by simp [cmI]; omega)) .nil), All.mem .nil, All.mem .nil, All.mem .nil, All.mem (.cons (.of .nil (.closed rfl) wakes_is) .nil), All.mem .nil⟩
  have hLs : LkOK prog zR1L := symL_ok xL_ok hT
  have hx := XrOK.catch xfollows hLs (arun_good xfollows hLs 5000) zR1_enter zR1_blow ⟨f90, _, (by kernel_rfl), f90_body⟩ (RcOK.of hLs (arun_good xfollows hLs 5000) (fd := f90) (by kernel_rfl) f90_body rfl zR1_center zR1_p1 zR1_p2 zR1_rec) zR1_val
  exact runCalls (L := zR1Lk) xfollows (hLs.with (entX_ok hx xL_ok.orx)) zR1_run (.cons (.atom rfl rfl) .nil) (.closed rfl) w

set_option maxRecDepth 100000 in
theorem sfR2 (p : Int) (hp : 256 < p) (w : World) : Calls prog 4 #[.int .i64 p] w fun e w' => e = .returned (.bool true) ∧ Below w.heap.size w w' := by
  letI : Sg := ⟨fun i => ([.int .i64 p] : List Value)[i]?⟩
  have hT : TabsOK prog zR2T := ⟨All.mem (.cons (EB.cm (.atom rfl rfl) (.int _ _) rfl (by simp [cmI]; omega)) (.cons (EB.cm (.atom rfl rfl) (.int _ _) rfl (by simp [cmI]; omega)) .nil)), All.mem .nil, All.mem .nil, All.mem .nil, All.mem (.cons (.of .nil (.closed rfl) wakes_is) .nil), All.mem .nil⟩
  have hLs : LkOK prog zR2L := symL_ok xL_ok hT
  have hx := XrOK.catch xfollows hLs (arun_good xfollows hLs 5000) zR2_enter zR2_blow ⟨f90, _, (by kernel_rfl), f90_body⟩ (RcOK.of hLs (arun_good xfollows hLs 5000) (fd := f90) (by kernel_rfl) f90_body rfl zR2_center zR2_p1 zR2_p2 zR2_rec) zR2_val
  exact runCalls (L := zR2Lk) xfollows (hLs.with (entX_ok hx xL_ok.orx)) zR2_run (.cons (.atom rfl rfl) .nil) (.closed rfl) w

set_option maxRecDepth 100000 in
theorem sfG (p : Int) (h1 : 24 ≤ p) (h2 : p ≤ 256) (w : World) : Calls prog 4 #[.int .i64 p] w fun e w' => e = .returned (.bool true) ∧ Below w.heap.size w w' := by
  letI : Sg := ⟨fun i => ([.int .i64 p] : List Value)[i]?⟩
  have hT : TabsOK prog gT := ⟨All.mem (.cons (EB.cm (.atom rfl rfl) (.int _ _) rfl (by simp [cmI]; omega)) (.cons (EB.cm (.atom rfl rfl) (.int _ _) rfl (by simp [cmI]; omega)) (.cons (EB.cm (.atom rfl rfl) (.int _ _) rfl (by simp [cmI]; omega)) (.cons (EB.cm (.atom rfl rfl) (.int _ _) rfl (by simp [cmI]; omega)) (.cons (EB.cm (.int _ _) (.atom rfl rfl) rfl (by simp [cmI]; omega)) (.cons (EB.cm (.int _ _) (.atom rfl rfl) rfl (by simp [cmI]; omega)) (.cons (EB.cm (.int _ _) (.atom rfl rfl) rfl (by simp [cmI]; omega)) (.cons (EB.cm (.int _ _) (.atom rfl rfl) rfl (by simp [cmI]; omega)) (.cons (EB.cm (.int _ _) (.atom rfl rfl) rfl (by simp [cmI]; omega)) .nil))))))))), All.mem .nil, All.mem .nil, All.mem .nil, All.mem (.cons (.of .nil (.closed rfl) wakes_is) .nil), All.mem .nil⟩
  obtain ⟨N, rfl⟩ : ∃ N : Nat, p = N := ⟨p.toNat, by omega⟩
  have hL : LkOK prog gL := lgL_ok (symL_ok xL_ok hT) (N := N) rfl (by omega) (by omega)
  refine (Calls.ofA hL (arun_good xfollows hL 20000) g_enter (outT_sound (arunS_good xfollows hL 4 250 20000) g1_run) g2_run (Nat.le_refl _) (noSit w 613) (args' := #[.int .i64 (N : Int)]) (by
    have : LIs [aI 0] [.int .i64 (N : Int)] := .cons (.atom rfl rfl) .nil
    simpa using this.1 noE)).mono ?_
  rintro e w' ⟨E', v', rfl, hv, _, hS⟩
  rw [hv.eq rfl]
  exact ⟨rfl, hS.below⟩

theorem formats_is (p : Int) (w : World) : Calls prog 4 #[.int .i64 p] w fun e w' => e = .returned (.bool true) ∧ Below w.heap.size w w' := by
  rcases Int.lt_or_le p 24 with h | h
  · exact sfR1 p h w
  · rcases Int.lt_or_le 256 p with h2 | h2
    · exact sfR2 p h2 w
    · exact sfG p h h2 w
end Go.Proofs.Tryz
