import Derived.Test.YtdcnblafepgheaaDoorTy
import Derived.Test.YtdcnblafepgheaaDoorV5
import Derived.DeepKeys4
namespace Go.Proofs.YtdcnblafepgheaaDoor
open Go Go.V
set_option maxRecDepth 100000
theorem eq3 (d : Nat) : EqT Tryd.prog 3 (d + 1) (fun n => .int .i64 n) := eqT_int d Tryd.underlying3
theorem eq27 (d : Nat) : EqT Tryd.prog 27 (d + 2) v4 := eqT_v4 d Tryd.underlying27 Tryd.underlying5 sz5
theorem eq34 (d : Nat) : EqT Tryd.prog 34 (d + 3) t4 := fun w x y =>
  eq_struct Tryd.underlying34 (by kernel_rfl) (eqF_cons (a := v4 x.addr) (b := v4 y.addr) (by decide) (by kernel_rfl) (by kernel_rfl) (eq27 (d + 0) w _ _) (eqF_cons (a := .int .i64 x.port) (b := .int .i64 y.port) (by decide) (by kernel_rfl) (by kernel_rfl) (eq3 (d + 1) w _ _) eqF_nil)) (by cases x; cases y; simp)
theorem eq59 (d : Nat) : EqT Tryd.prog 59 (d + 4) sv := fun w x y =>
  eq_struct Tryd.underlying59 (by kernel_rfl) (eqF_cons (a := .int .i64 x.id) (b := .int .i64 y.id) (by decide) (by kernel_rfl) (by kernel_rfl) (eq3 (d + 2) w _ _) (eqF_cons (a := .int .i64 x.binding) (b := .int .i64 y.binding) (by decide) (by kernel_rfl) (by kernel_rfl) (eq3 (d + 2) w _ _) (eqF_cons (a := t4 x.peer) (b := t4 y.peer) (by decide) (by kernel_rfl) (by kernel_rfl) (eq34 (d + 0) w _ _) (eqF_cons (a := .int .i64 x.state) (b := .int .i64 y.state) (by decide) (by kernel_rfl) (by kernel_rfl) (eq3 (d + 2) w _ _) (eqF_cons (a := .int .i64 x.due) (b := .int .i64 y.due) (by decide) (by kernel_rfl) (by kernel_rfl) (eq3 (d + 2) w _ _) eqF_nil))))) (by cases x; cases y; simp)
theorem eg27 : Tryd.prog.eqGuardType Tryd.prog.depth 27 = false := by kernel_rfl
theorem eg59 : Tryd.prog.eqGuardType Tryd.prog.depth 59 = false := by kernel_rfl
theorem kf3 : KF Tryd.prog 3 (fun n : Int => .int .i64 n) inI := kf_int Tryd.underlying3
theorem ti59 : TyInfo Tryd.prog 59 9 48 (.agg #[.int .i64 0, .int .i64 0, .int .u8 0, .int .u8 0, .int .u8 0, .int .u8 0, .int .i64 0, .int .i64 0, .int .i64 0]) := by unfold TyInfo; kernel_rfl
theorem ti159 : TyInfo Tryd.prog 159 3 32 (.agg #[.string .empty, .int .i64 0, .bool false]) := by unfold TyInfo; kernel_rfl
theorem ti164 : TyInfo Tryd.prog 164 2 16 (.agg #[.int .i64 0, .int .i64 0]) := by unfold TyInfo; kernel_rfl
end Go.Proofs.YtdcnblafepgheaaDoor
