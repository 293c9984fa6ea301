/- States of the run that are written down. The console's 'wakes' is true. -/
import Derived.Test.YtbiedfkmmcaplaaGreatDoorKD
set_option linter.all false
namespace Go.Proofs.Tryz
open Go.Proofs.Ex
def told1 : ByteArray := ⟨#[111, 107, 10, 111, 107, 10, 111, 107, 10, 111, 107, 32, 50, 10, 111, 107, 32, 53, 47, 53, 32, 54, 47, 54, 32, 101, 57, 10, 111, 107, 10, 101, 114, 114, 111, 114, 32, 51, 55, 50, 10]⟩
theorem r1_run : outB (.tuple #[.string told1, .int .i64 0, .int .i64 0]) .nil 2066 (runH prog xC3 .nil 0 9 [.string text1] 20000) = true := by kernel_rfl
noncomputable def xC4 : Lk := { xL6 with orx := entF 9 [.string text1] .nil 0 (.tuple #[.string told1, .int .i64 0, .int .i64 0]) .nil 2066 xL6.orx }
end Go.Proofs.Tryz

namespace Go.Proofs.Tryz
open Go.Proofs.Ex Go.RowKit Go.Proofs.YtbiedfkmmcaplaaGreatDoor

theorem c0_ok : XrOK prog 26 a0A a0H 38 b0V b0H 200 := .ofRun xfollows xL6_ok c0_run
theorem xC0_ok : LkOK prog xC0 := xL6_ok.with (entF_ok c0_ok xL6_ok.orx)
theorem c1_ok : XrOK prog 27 a1A a1H 201 b1V b1H 600 := .ofRun xfollows xL6_ok c1_run
theorem xC1_ok : LkOK prog xC1 := xL6_ok.with (entF_ok c1_ok xC0_ok.orx)
theorem c2_ok : XrOK prog 27 a2A a2H 1622 b2V b2H 2021 := .ofRun xfollows xL6_ok c2_run
theorem xC2_ok : LkOK prog xC2 := xL6_ok.with (entF_ok c2_ok xC1_ok.orx)
noncomputable def f211ops : Array Oper := regC (subC (bodyC f211) [0])
theorem f211_body : f211.body = some (.seq (.region 0 f211ops false) (subC (bodyC f211) [1])) := by kernel_rfl
theorem z3_ok : XrOK prog 148 a3A a3H 2040 z3v z3rH 2055 :=
  XrOK.catch xfollows xL6_ok (arun_good xfollows xL6_ok 5000) z3_enter z3_blow ⟨f211, _, (by kernel_rfl), f211_body⟩ (RcOK.of xL6_ok (arun_good xfollows xL6_ok 5000) (fd := f211) (by kernel_rfl) f211_body rfl z3_center z3_p1 z3_p2 z3_rec) z3_val
theorem xC3_ok : LkOK prog xC3 := xL6_ok.with (entF_ok z3_ok xC2_ok.orx)
theorem r1_ok : XrOK prog 9 [.string text1] .nil 0 (.tuple #[.string told1, .int .i64 0, .int .i64 0]) .nil 2066 := .ofRun xfollows xC3_ok r1_run
theorem xC4_ok : LkOK prog xC4 := xL6_ok.with (entF_ok r1_ok xL6_ok.orx)
theorem w1_run : outB (.bool true) .nil 2082 (runA prog xC4 4 [] 20000) = true := by kernel_rfl
theorem wakes31 (w : World) (hL : Laid w) : Calls prog 4 #[] w fun e w' => e = .returned (.bool true) ∧ Below w.heap.size w w' :=
  runCalls xfollows xC4_ok w1_run LIs.nil (Is.closed rfl) w ⟨hL, fun k hk => laid_lt hL k hk⟩
end Go.Proofs.Tryz
