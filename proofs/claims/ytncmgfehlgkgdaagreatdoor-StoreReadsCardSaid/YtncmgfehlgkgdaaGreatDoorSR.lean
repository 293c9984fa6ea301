/- The statement StoreReads, as a run: it answers true, whatever the scale, the time and the bits. -/
import Derived.Test.YtncmgfehlgkgdaaGreatDoorKF
import Derived.Test.YtncmgfehlgkgdaaGreatDoorGauge
import Derived.Test.YtncmgfehlgkgdaaGreatDoorSy
import Derived.Laws.StructEq
import Derived.Test.YtncmgfehlgkgdaaGreatDoorZA
import Derived.Test.YtncmgfehlgkgdaaGreatDoorZB
import Derived.Test.YtncmgfehlgkgdaaGreatDoorZC
import Derived.Test.YtncmgfehlgkgdaaGreatDoorZD
set_option linter.unusedSimpArgs false
set_option linter.unusedVariables false
set_option linter.unusedSectionVars false
namespace Go.Proofs.Tryz
open Go.Proofs.Ex Go.RowKit

theorem wakes_is (w : World) : Calls prog 5 #[] w fun e w' => e = .returned (.bool true) ∧ Below w.heap.size w w' := by
  letI : Sg := ⟨fun _ => none⟩
  refine (Calls.ofA0 (xL2_ok xfollows xL_ok) (arun_good xfollows (xL2_ok xfollows xL_ok) 20000) w0_enter (outT_sound (arunS_good xfollows (xL1_ok xfollows xL_ok) 5 700 20000) w1_run) w2_run rfl w).mono ?_
  rintro e w' ⟨E', v', rfl, hv, hS⟩
  rw [hv.eq rfl]
  exact ⟨rfl, hS.below⟩

theorem max_at {t : Int} (h : 0 ≤ t) : t = (if 0 > t then 0 else t) := by rw [if_neg (by omega)]
theorem lo_nat (v : Int) : ∃ n : Nat, IntKind.u64.wrap v = n ∧ n < 18446744073709551616 := by
  have h1 := wrap_u64_nonneg v
  obtain ⟨n, hn⟩ := Int.eq_ofNat_of_zero_le h1
  refine ⟨n, hn, ?_⟩
  letI : Sg := ⟨fun _ => none⟩
  have := wrap_u64_lt v
  omega
theorem add_lo (v : Int) (w : World) : (callFunc 458 #[.int .u64 0, .int .u64 (IntKind.u64.wrap v), .int .u64 0]).run prog w = .ok (.value (.tuple #[.int .u64 (IntKind.u64.wrap v), .int .u64 0])) w := by
  letI : Sg := ⟨fun _ => none⟩
  obtain ⟨n, hn, hl⟩ := lo_nat v
  rw [hn]
  have := xadd_run 0 n 0 (by omega) w
  have e1 : (0 + n + 0) % 18446744073709551616 = n := by omega
  have e2 : (0 + n + 0) / 18446744073709551616 = 0 := by omega
  rw [e1, e2] at this
  exact this
theorem add_lo2 (v : Int) (w : World) : (callFunc 458 #[.int .u64 (IntKind.u64.wrap v), .int .u64 0, .int .u64 0]).run prog w = .ok (.value (.tuple #[.int .u64 (IntKind.u64.wrap v), .int .u64 0])) w := by
  letI : Sg := ⟨fun _ => none⟩
  obtain ⟨n, hn, hl⟩ := lo_nat v
  rw [hn]
  have := xadd_run n 0 0 (by omega) w
  have e1 : (n + 0 + 0) % 18446744073709551616 = n := by omega
  have e2 : (n + 0 + 0) / 18446744073709551616 = 0 := by omega
  rw [e1, e2] at this
  exact this
theorem sub_lo (v : Int) (w : World) : (callFunc 457 #[.int .u64 (IntKind.u64.wrap v), .int .u64 0, .int .u64 0]).run prog w = .ok (.value (.tuple #[.int .u64 (IntKind.u64.wrap v), .int .u64 0])) w := by
  letI : Sg := ⟨fun _ => none⟩
  obtain ⟨n, hn, hl⟩ := lo_nat v
  rw [hn]
  have := xsub_run n 0 0 (by omega) w
  have e1 : (n + 18446744073709551616 - 0 - 0) % 18446744073709551616 = n := by omega
  rw [e1] at this
  exact this
theorem span_run (v : Int) (x y : Operand) (w : World) : (do eqGuard .eql 47 x y (.agg #[.int .i64 v, .int .i64 v]) (.agg #[.int .i64 v, .int .i64 v]); binOp .eql 47 (.agg #[.int .i64 v, .int .i64 v]) (.agg #[.int .i64 v, .int .i64 v])).run prog w = .ok (.bool true) w := by
  have h1 : (eqGuard .eql 47 x y (.agg #[.int .i64 v, .int .i64 v]) (.agg #[.int .i64 v, .int .i64 v])).run prog w = .ok () w := by kernel_rfl
  have h2 : prog.fieldsOf 47 = #[{ name := "Lo", type := 2, offset := 0, embedded := false, tag := "", pkgPath := "", byteOffset := 0 }, { name := "Hi", type := 2, offset := 1, embedded := false, tag := "", pkgPath := "", byteOffset := 8 }] := by kernel_rfl
  have p0 : (part 2 #[.int .i64 v, .int .i64 v] 0).run prog w = .ok (.int .i64 v) w := by kernel_rfl
  have p1 : (part 2 #[.int .i64 v, .int .i64 v] 1).run prog w = .ok (.int .i64 v) w := by kernel_rfl
  have h3 := run_equalIn_agg (P := prog) w 9999 47 #[.int .i64 v, .int .i64 v] #[.int .i64 v, .int .i64 v] (by rw [h2]; exact underlying47) (by kernel_rfl)
  have h4 := run_equalIn_int (P := prog) w 9998 2 .i64 .i64 v v underlying2
  rw [Sem.run_bind, h1, Result.andThen_ok, run_eql_struct, h3, h2]
  simp only [Op.eqFields]
  simp [Sem.run_bind, p0, p1, h4]
theorem span_eq [Sg] {v : Int} {a : Value} (ha : Is a (.int .i64 v)) : EB prog (11, 47, .agg #[a, a], .agg #[a, a], .bool true) := by
  refine ⟨_, _, .bool true, .agg2 ha ha, .agg2 ha ha, fun _ => .bool _, fun op he x y w => ?_⟩
  cases op <;> first
    | (cases he; done)
    | exact span_run v x y w

def f68ops : Array Oper := #[⟨some 4, .call ⟨.builtin .recover, #[], #[]⟩, 20, "store.go:72", #[], none⟩, ⟨some 2, .assign (.tmp 4), 20, "store.go:72", #[{ on := 0, ground := .data }, { on := 0, ground := .chain }, { on := 0, ground := .phase }], none⟩]
theorem f68_body : f68.body = some (.seq (.region 0 f68ops false) (subC (bodyC f68) [1])) := by kernel_rfl

set_option maxRecDepth 100000 in
theorem srA1 (s t : Int) (b : Nat) (hs : s < -40) (w : World) : Calls prog 3 #[.int .i64 s, .int .i64 t, .int .u64 b] w fun e w' => e = .returned (.bool true) ∧ Below w.heap.size w w' := by
  letI : Sg := ⟨fun i => ([.int .i64 s, .int .i64 t, .int .u64 b, .float .f64 b] : List Value)[i]?⟩
  have hT : TabsOK prog zA1T := ⟨All.mem (.cons (EB.cm (.atom rfl rfl) (.int _ _) rfl (by simp [cmI]; omega)) (.cons (EB.cm (.atom rfl rfl) (.int _ _) rfl (by simp [cmI]; omega)) .nil)), All.mem .nil, All.mem .nil, All.mem (.cons (.of (.cons (.atom rfl rfl) .nil) (.atom rfl rfl) (fun w => from_run b w)) .nil), All.mem (.cons (.of .nil (.closed rfl) wakes_is) .nil), All.mem .nil⟩
  have hLs : LkOK prog zA1L := symL_ok (xL1_ok xfollows xL_ok) hT
  have hx := XrOK.catch xfollows hLs (arun_good xfollows hLs 5000) zA1_enter zA1_blow ⟨f68, _, (by kernel_rfl), f68_body⟩ (RcOK.of hLs (arun_good xfollows hLs 5000) (fd := f68) (by kernel_rfl) f68_body rfl zA1_center zA1_p1 zA1_p2 zA1_rec) zA1_val
  exact runCalls (L := zA1Lk) xfollows (hLs.with (entX_ok hx (xL1_ok xfollows xL_ok).orx)) zA1_run (.cons (.atom rfl rfl) (.cons (.atom rfl rfl) (.cons (.atom rfl rfl) .nil))) (.closed rfl) w

set_option maxRecDepth 100000 in
theorem srA2 (s t : Int) (b : Nat) (hs : 40 < s) (w : World) : Calls prog 3 #[.int .i64 s, .int .i64 t, .int .u64 b] w fun e w' => e = .returned (.bool true) ∧ Below w.heap.size w w' := by
  letI : Sg := ⟨fun i => ([.int .i64 s, .int .i64 t, .int .u64 b, .float .f64 b] : List Value)[i]?⟩
  have hT : TabsOK prog zA2T := ⟨All.mem (.cons (EB.cm (.atom rfl rfl) (.int _ _) rfl (by simp [cmI]; omega)) (.cons (EB.cm (.atom rfl rfl) (.int _ _) rfl (by simp [cmI]; omega)) (.cons (EB.cm (.atom rfl rfl) (.int _ _) rfl (by simp [cmI]; omega)) (.cons (EB.cm (.atom rfl rfl) (.int _ _) rfl (by simp [cmI]; omega)) .nil)))), All.mem .nil, All.mem .nil, All.mem (.cons (.of (.cons (.atom rfl rfl) .nil) (.atom rfl rfl) (fun w => from_run b w)) .nil), All.mem (.cons (.of .nil (.closed rfl) wakes_is) .nil), All.mem .nil⟩
  have hLs : LkOK prog zA2L := symL_ok (xL1_ok xfollows xL_ok) hT
  have hx := XrOK.catch xfollows hLs (arun_good xfollows hLs 5000) zA2_enter zA2_blow ⟨f68, _, (by kernel_rfl), f68_body⟩ (RcOK.of hLs (arun_good xfollows hLs 5000) (fd := f68) (by kernel_rfl) f68_body rfl zA2_center zA2_p1 zA2_p2 zA2_rec) zA2_val
  exact runCalls (L := zA2Lk) xfollows (hLs.with (entX_ok hx (xL1_ok xfollows xL_ok).orx)) zA2_run (.cons (.atom rfl rfl) (.cons (.atom rfl rfl) (.cons (.atom rfl rfl) .nil))) (.closed rfl) w

set_option maxRecDepth 100000 in
theorem srB1 (s t : Int) (b : Nat) (hs : -40 ≤ s ∧ s ≤ 40) (hF : ∀ w, Calls prog 9 #[.float .f64 b, .int .i64 s] w fun ev w' => ev = .returned (.tuple #[.int .i64 0, .int .i64 130]) ∧ Below w.heap.size w w') (w : World) : Calls prog 3 #[.int .i64 s, .int .i64 t, .int .u64 b] w fun e w' => e = .returned (.bool true) ∧ Below w.heap.size w w' := by
  letI : Sg := ⟨fun i => ([.int .i64 s, .int .i64 t, .int .u64 b, .float .f64 b] : List Value)[i]?⟩
  have hT : TabsOK prog zB1T := ⟨All.mem (.cons (EB.cm (.atom rfl rfl) (.int _ _) rfl (by simp [cmI]; omega)) (.cons (EB.cm (.atom rfl rfl) (.int _ _) rfl (by simp [cmI]; omega)) (.cons (EB.cm (.atom rfl rfl) (.atom rfl rfl) rfl (by simp [cmI])) .nil))), All.mem .nil, All.mem .nil, All.mem (.cons (.of (.cons (.atom rfl rfl) .nil) (.atom rfl rfl) (fun w => from_run b w)) .nil), All.mem (.cons (.of .nil (.closed rfl) wakes_is) (.cons (.of (.cons (.atom rfl rfl) (.cons (.atom rfl rfl) .nil)) (.tupL (.cons (.int _ _) (.cons (.int _ _) .nil))) hF) .nil)), All.mem .nil⟩
  have hLs : LkOK prog zB1L := symL_ok (xL1_ok xfollows xL_ok) hT
  have hx := XrOK.catch xfollows hLs (arun_good xfollows hLs 5000) zB1_enter zB1_blow ⟨f68, _, (by kernel_rfl), f68_body⟩ (RcOK.of hLs (arun_good xfollows hLs 5000) (fd := f68) (by kernel_rfl) f68_body rfl zB1_center zB1_p1 zB1_p2 zB1_rec) zB1_val
  exact runCalls (L := zB1Lk) xfollows (hLs.with (entX_ok hx (xL1_ok xfollows xL_ok).orx)) zB1_run (.cons (.atom rfl rfl) (.cons (.atom rfl rfl) (.cons (.atom rfl rfl) .nil))) (.closed rfl) w

set_option maxRecDepth 100000 in
theorem srB2 (s t : Int) (b : Nat) (hs : -40 ≤ s ∧ s ≤ 40) (hF : ∀ w, Calls prog 9 #[.float .f64 b, .int .i64 s] w fun ev w' => ev = .returned (.tuple #[.int .i64 0, .int .i64 5]) ∧ Below w.heap.size w w') (w : World) : Calls prog 3 #[.int .i64 s, .int .i64 t, .int .u64 b] w fun e w' => e = .returned (.bool true) ∧ Below w.heap.size w w' := by
  letI : Sg := ⟨fun i => ([.int .i64 s, .int .i64 t, .int .u64 b, .float .f64 b] : List Value)[i]?⟩
  have hT : TabsOK prog zB2T := ⟨All.mem (.cons (EB.cm (.atom rfl rfl) (.int _ _) rfl (by simp [cmI]; omega)) (.cons (EB.cm (.atom rfl rfl) (.int _ _) rfl (by simp [cmI]; omega)) (.cons (EB.cm (.atom rfl rfl) (.atom rfl rfl) rfl (by simp [cmI])) .nil))), All.mem .nil, All.mem .nil, All.mem (.cons (.of (.cons (.atom rfl rfl) .nil) (.atom rfl rfl) (fun w => from_run b w)) .nil), All.mem (.cons (.of .nil (.closed rfl) wakes_is) (.cons (.of (.cons (.atom rfl rfl) (.cons (.atom rfl rfl) .nil)) (.tupL (.cons (.int _ _) (.cons (.int _ _) .nil))) hF) .nil)), All.mem .nil⟩
  have hLs : LkOK prog zB2L := symL_ok (xL1_ok xfollows xL_ok) hT
  have hx := XrOK.catch xfollows hLs (arun_good xfollows hLs 5000) zB2_enter zB2_blow ⟨f68, _, (by kernel_rfl), f68_body⟩ (RcOK.of hLs (arun_good xfollows hLs 5000) (fd := f68) (by kernel_rfl) f68_body rfl zB2_center zB2_p1 zB2_p2 zB2_rec) zB2_val
  exact runCalls (L := zB2Lk) xfollows (hLs.with (entX_ok hx (xL1_ok xfollows xL_ok).orx)) zB2_run (.cons (.atom rfl rfl) (.cons (.atom rfl rfl) (.cons (.atom rfl rfl) .nil))) (.closed rfl) w

set_option maxRecDepth 100000 in
theorem srC1 (s t : Int) (b : Nat) (v : Int) (hs : -40 ≤ s ∧ s ≤ 40) (ht : t < 0) (hF : ∀ w, Calls prog 9 #[.float .f64 b, .int .i64 s] w fun ev w' => ev = .returned (.tuple #[.int .i64 v, .int .i64 0]) ∧ Below w.heap.size w w') (w : World) : Calls prog 3 #[.int .i64 s, .int .i64 t, .int .u64 b] w fun e w' => e = .returned (.bool true) ∧ Below w.heap.size w w' := by
  letI : Sg := ⟨fun i => ([.int .i64 s, .int .i64 t, .int .u64 b, .float .f64 b, .int .i64 v] : List Value)[i]?⟩
  have hT : TabsOK prog zC1T := ⟨All.mem (.cons (EB.cm (.atom rfl rfl) (.int _ _) rfl (by simp [cmI]; omega)) (.cons (EB.cm (.atom rfl rfl) (.int _ _) rfl (by simp [cmI]; omega)) (.cons (EB.cm (.int _ _) (.atom rfl rfl) rfl (by simp [cmI]; omega)) (.cons (EB.cm (.atom rfl rfl) (.int _ _) rfl (by simp [cmI]; omega)) (.cons (EB.cm (.atom rfl rfl) (.atom rfl rfl) rfl (by simp [cmI])) .nil))))), All.mem .nil, All.mem .nil, All.mem (.cons (.of (.cons (.atom rfl rfl) .nil) (.atom rfl rfl) (fun w => from_run b w)) .nil), All.mem (.cons (.of .nil (.closed rfl) wakes_is) (.cons (.of (.cons (.atom rfl rfl) (.cons (.atom rfl rfl) .nil)) (.tupL (.cons (.atom rfl rfl) (.cons (.int _ _) .nil))) hF) .nil)), All.mem .nil⟩
  have hLs : LkOK prog zC1L := symL_ok (xL1_ok xfollows xL_ok) hT
  have hx := XrOK.catch xfollows hLs (arun_good xfollows hLs 5000) zC1_enter zC1_blow ⟨f68, _, (by kernel_rfl), f68_body⟩ (RcOK.of hLs (arun_good xfollows hLs 5000) (fd := f68) (by kernel_rfl) f68_body rfl zC1_center zC1_p1 zC1_p2 zC1_rec) zC1_val
  exact runCalls (L := zC1Lk) xfollows (hLs.with (entX_ok hx (xL1_ok xfollows xL_ok).orx)) zC1_run (.cons (.atom rfl rfl) (.cons (.atom rfl rfl) (.cons (.atom rfl rfl) .nil))) (.closed rfl) w

set_option maxRecDepth 100000 in
theorem srC2 (s t : Int) (b : Nat) (v : Int) (hs : -40 ≤ s ∧ s ≤ 40) (ht : 281474976710656 < t) (hF : ∀ w, Calls prog 9 #[.float .f64 b, .int .i64 s] w fun ev w' => ev = .returned (.tuple #[.int .i64 v, .int .i64 0]) ∧ Below w.heap.size w w') (w : World) : Calls prog 3 #[.int .i64 s, .int .i64 t, .int .u64 b] w fun e w' => e = .returned (.bool true) ∧ Below w.heap.size w w' := by
  letI : Sg := ⟨fun i => ([.int .i64 s, .int .i64 t, .int .u64 b, .float .f64 b, .int .i64 v] : List Value)[i]?⟩
  have hT : TabsOK prog zC2T := ⟨All.mem (.cons (EB.cm (.atom rfl rfl) (.int _ _) rfl (by simp [cmI]; omega)) (.cons (EB.cm (.atom rfl rfl) (.int _ _) rfl (by simp [cmI]; omega)) (.cons (EB.cm (.int _ _) (.atom rfl rfl) rfl (by simp [cmI]; omega)) (.cons (EB.cm (.atom rfl rfl) (.int _ _) rfl (by simp [cmI]; omega)) (.cons (EB.cm (.atom rfl rfl) (.int _ _) rfl (by simp [cmI]; omega)) (.cons (EB.cm (.atom rfl rfl) (.int _ _) rfl (by simp [cmI]; omega)) (.cons (EB.cm (.atom rfl rfl) (.atom rfl rfl) rfl (by simp [cmI])) .nil))))))), All.mem .nil, All.mem .nil, All.mem (.cons (.of (.cons (.atom rfl rfl) .nil) (.atom rfl rfl) (fun w => from_run b w)) .nil), All.mem (.cons (.of .nil (.closed rfl) wakes_is) (.cons (.of (.cons (.atom rfl rfl) (.cons (.atom rfl rfl) .nil)) (.tupL (.cons (.atom rfl rfl) (.cons (.int _ _) .nil))) hF) .nil)), All.mem .nil⟩
  have hLs : LkOK prog zC2L := symL_ok (xL1_ok xfollows xL_ok) hT
  have hx := XrOK.catch xfollows hLs (arun_good xfollows hLs 5000) zC2_enter zC2_blow ⟨f68, _, (by kernel_rfl), f68_body⟩ (RcOK.of hLs (arun_good xfollows hLs 5000) (fd := f68) (by kernel_rfl) f68_body rfl zC2_center zC2_p1 zC2_p2 zC2_rec) zC2_val
  exact runCalls (L := zC2Lk) xfollows (hLs.with (entX_ok hx (xL1_ok xfollows xL_ok).orx)) zC2_run (.cons (.atom rfl rfl) (.cons (.atom rfl rfl) (.cons (.atom rfl rfl) .nil))) (.closed rfl) w

set_option maxRecDepth 100000 in
theorem srC3 (s t : Int) (b : Nat) (v : Int) (hs : -40 ≤ s ∧ s ≤ 40) (ht : 0 ≤ t ∧ t ≤ 281474976710656) (hv : 0 ≤ v ∧ v ≤ 2305843009213693952) (hF : ∀ w, Calls prog 9 #[.float .f64 b, .int .i64 s] w fun ev w' => ev = .returned (.tuple #[.int .i64 v, .int .i64 0]) ∧ Below w.heap.size w w') (w : World) : Calls prog 3 #[.int .i64 s, .int .i64 t, .int .u64 b] w fun e w' => e = .returned (.bool true) ∧ Below w.heap.size w w' := by
  letI : Sg := ⟨fun i => ([.int .i64 s, .int .i64 t, .int .u64 b, .float .f64 b, .int .i64 v, .int .u64 (IntKind.u64.wrap v)] : List Value)[i]?⟩
  have hT : TabsOK prog zC3T := ⟨All.mem (.cons (EB.sh (.atom rfl rfl) (.int _ _) (by decide) (by decide) ((shr63_nn (v := v) (by omega) (by omega)).symm ▸ Is.int .i64 _)) (.cons (span_eq (.atom rfl rfl)) (.cons (EB.cm (.atom rfl rfl) (.int _ _) rfl (by simp [cmI]; omega)) (.cons (EB.cm (.atom rfl rfl) (.int _ _) rfl (by simp [cmI]; omega)) (.cons (EB.cm (.int _ _) (.atom rfl rfl) rfl (by simp [cmI]; omega)) (.cons (EB.cm (.atom rfl rfl) (.int _ _) rfl (by simp [cmI]; omega)) (.cons (EB.cm (.int _ _) (.atom rfl rfl) rfl (by simp [cmI]; omega)) (.cons (EB.cm (.atom rfl rfl) (.int _ _) rfl (by simp [cmI]; omega)) (.cons (EB.cm (.atom rfl rfl) (.int _ _) rfl (by simp [cmI]; omega)) (.cons (EB.cm (.atom rfl rfl) (.int _ _) rfl (by simp [cmI]; omega)) (.cons (EB.cm (.atom rfl rfl) (.int _ _) rfl (by simp [cmI]; omega)) (.cons (EB.cm (.int _ _) (.atom rfl rfl) rfl (by simp [cmI]; omega)) (.cons (EB.cm (.atom rfl rfl) (.int _ _) rfl (by simp [cmI]; omega)) (.cons (EB.cm (.atom rfl rfl) (.atom rfl rfl) rfl (by simp [cmI])) (.cons (EB.cm (.atom rfl rfl) (.atom rfl rfl) rfl (by simp [cmI])) (.cons (EB.cm (.atom rfl rfl) (.atom rfl rfl) rfl (by simp [cmI])) (.cons (EB.cm (.atom rfl rfl) (.atom rfl rfl) rfl (by simp [cmI])) .nil))))))))))))))))), All.mem (.cons (EC.int underlying2 underlying22 (.atom rfl rfl) (.atom rfl rfl)) (.cons (EC.int underlying22 underlying2 (.atom rfl rfl) ((wrap_back (v := v) (by omega) (by omega)).symm ▸ Is.atom (v' := .int .i64 v) rfl rfl)) .nil)), All.mem .nil, All.mem (.cons (.of (.cons (.atom rfl rfl) .nil) (.atom rfl rfl) (fun w => from_run b w)) (.cons (.of (.cons (.int _ _) (.cons (.atom rfl rfl) (.cons (.int _ _) .nil))) (.tupL (.cons (.atom rfl rfl) (.cons (.int _ _) .nil))) (add_lo v)) (.cons (.of (.cons (.atom rfl rfl) (.cons (.int _ _) (.cons (.int _ _) .nil))) (.tupL (.cons (.atom rfl rfl) (.cons (.int _ _) .nil))) (add_lo2 v)) (.cons (.of (.cons (.atom rfl rfl) (.cons (.int _ _) (.cons (.int _ _) .nil))) (.tupL (.cons (.atom rfl rfl) (.cons (.int _ _) .nil))) (sub_lo v)) .nil)))), All.mem (.cons (.of .nil (.closed rfl) wakes_is) (.cons (.of (.cons (.atom rfl rfl) (.cons (.atom rfl rfl) .nil)) (.tupL (.cons (.atom rfl rfl) (.cons (.int _ _) .nil))) hF) .nil)), All.mem (.cons (EM.max (.atom rfl rfl) (.int _ _) (max_at ht.1 ▸ Is.atom (v' := .int .i64 t) rfl rfl)) .nil)⟩
  have hLs : LkOK prog zC3L := symL_ok (xL1_ok xfollows xL_ok) hT
  exact runCalls xfollows hLs zC3_run (.cons (.atom rfl rfl) (.cons (.atom rfl rfl) (.cons (.atom rfl rfl) .nil))) (.closed rfl) w

set_option maxRecDepth 100000 in
theorem srC4 (s t : Int) (b : Nat) (v : Int) (hs : -40 ≤ s ∧ s ≤ 40) (ht : 0 ≤ t ∧ t ≤ 281474976710656) (hv : v < 0 ∧ -2305843009213693952 ≤ v) (hF : ∀ w, Calls prog 9 #[.float .f64 b, .int .i64 s] w fun ev w' => ev = .returned (.tuple #[.int .i64 v, .int .i64 0]) ∧ Below w.heap.size w w') (w : World) : Calls prog 3 #[.int .i64 s, .int .i64 t, .int .u64 b] w fun e w' => e = .returned (.bool true) ∧ Below w.heap.size w w' := by
  letI : Sg := ⟨fun i => ([.int .i64 s, .int .i64 t, .int .u64 b, .float .f64 b, .int .i64 v, .int .u64 (IntKind.u64.wrap v)] : List Value)[i]?⟩
  have hT : TabsOK prog zC4T := ⟨All.mem (.cons (EB.sh (.atom rfl rfl) (.int _ _) (by decide) (by decide) ((shr63_neg (v := v) (by omega) (by omega)).symm ▸ Is.int .i64 _)) (.cons (span_eq (.atom rfl rfl)) (.cons (EB.cm (.atom rfl rfl) (.int _ _) rfl (by simp [cmI]; omega)) (.cons (EB.cm (.atom rfl rfl) (.int _ _) rfl (by simp [cmI]; omega)) (.cons (EB.cm (.int _ _) (.atom rfl rfl) rfl (by simp [cmI]; omega)) (.cons (EB.cm (.atom rfl rfl) (.int _ _) rfl (by simp [cmI]; omega)) (.cons (EB.cm (.int _ _) (.atom rfl rfl) rfl (by simp [cmI]; omega)) (.cons (EB.cm (.atom rfl rfl) (.int _ _) rfl (by simp [cmI]; omega)) (.cons (EB.cm (.atom rfl rfl) (.int _ _) rfl (by simp [cmI]; omega)) (.cons (EB.cm (.atom rfl rfl) (.int _ _) rfl (by simp [cmI]; omega)) (.cons (EB.cm (.atom rfl rfl) (.int _ _) rfl (by simp [cmI]; omega)) (.cons (EB.cm (.int _ _) (.atom rfl rfl) rfl (by simp [cmI]; omega)) (.cons (EB.cm (.atom rfl rfl) (.int _ _) rfl (by simp [cmI]; omega)) (.cons (EB.cm (.atom rfl rfl) (.atom rfl rfl) rfl (by simp [cmI])) (.cons (EB.cm (.atom rfl rfl) (.atom rfl rfl) rfl (by simp [cmI])) (.cons (EB.cm (.atom rfl rfl) (.atom rfl rfl) rfl (by simp [cmI])) (.cons (EB.cm (.atom rfl rfl) (.atom rfl rfl) rfl (by simp [cmI])) .nil))))))))))))))))), All.mem (.cons (EC.int underlying2 underlying22 (.atom rfl rfl) (.atom rfl rfl)) (.cons (EC.int underlying22 underlying2 (.atom rfl rfl) ((wrap_back (v := v) (by omega) (by omega)).symm ▸ Is.atom (v' := .int .i64 v) rfl rfl)) .nil)), All.mem .nil, All.mem (.cons (.of (.cons (.atom rfl rfl) .nil) (.atom rfl rfl) (fun w => from_run b w)) (.cons (.of (.cons (.int _ _) (.cons (.atom rfl rfl) (.cons (.int _ _) .nil))) (.tupL (.cons (.atom rfl rfl) (.cons (.int _ _) .nil))) (add_lo v)) (.cons (.of (.cons (.atom rfl rfl) (.cons (.int _ _) (.cons (.int _ _) .nil))) (.tupL (.cons (.atom rfl rfl) (.cons (.int _ _) .nil))) (add_lo2 v)) (.cons (.of (.cons (.atom rfl rfl) (.cons (.int _ _) (.cons (.int _ _) .nil))) (.tupL (.cons (.atom rfl rfl) (.cons (.int _ _) .nil))) (sub_lo v)) .nil)))), All.mem (.cons (.of .nil (.closed rfl) wakes_is) (.cons (.of (.cons (.atom rfl rfl) (.cons (.atom rfl rfl) .nil)) (.tupL (.cons (.atom rfl rfl) (.cons (.int _ _) .nil))) hF) .nil)), All.mem (.cons (EM.max (.atom rfl rfl) (.int _ _) (max_at ht.1 ▸ Is.atom (v' := .int .i64 t) rfl rfl)) .nil)⟩
  have hLs : LkOK prog zC4L := symL_ok (xL1_ok xfollows xL_ok) hT
  exact runCalls xfollows hLs zC4_run (.cons (.atom rfl rfl) (.cons (.atom rfl rfl) (.cons (.atom rfl rfl) .nil))) (.closed rfl) w

theorem reads_is (s t : Int) (b : Nat) (w : World) : Calls prog 3 #[.int .i64 s, .int .i64 t, .int .u64 b] w fun e w' => e = .returned (.bool true) ∧ Below w.heap.size w w' := by
  by_cases h1 : s < -40
  · exact srA1 s t b h1 w
  · by_cases h2 : 40 < s
    · exact srA2 s t b h2 w
    · have hs : -40 ≤ s ∧ s ≤ 40 := by omega
      obtain ⟨v, e, hf, hF⟩ := gFixed b s hs
      rcases hf with ⟨rfl, hv1, hv2⟩ | ⟨rfl | rfl, rfl⟩
      · by_cases h3 : t < 0
        · exact srC1 s t b v hs h3 hF w
        · by_cases h4 : 281474976710656 < t
          · exact srC2 s t b v hs h4 hF w
          · by_cases h5 : v < 0
            · exact srC4 s t b v hs (by omega) ⟨h5, hv1⟩ hF w
            · exact srC3 s t b v hs (by omega) ⟨by omega, hv2⟩ hF w
      · exact srB2 s t b hs hF w
      · exact srB1 s t b hs hF w
end Go.Proofs.Tryz
