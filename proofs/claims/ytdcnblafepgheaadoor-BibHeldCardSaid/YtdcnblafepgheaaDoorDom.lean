import Derived.Test.YtdcnblafepgheaaDoorTy
import Derived.Test.YtdcnblafepgheaaDoorV5
import Derived.DeepKeys4
namespace Go.Proofs.YtdcnblafepgheaaDoor
open Go Go.V
set_option maxRecDepth 100000
theorem eq3 (d : Nat) : EqT Tryd.prog 3 (d + 1) (fun n => .int .i64 n) := eqT_int d Tryd.underlying3
theorem eq4 (d : Nat) : EqT Tryd.prog 4 (d + 1) (fun b => .bool b) := eqT_bool d Tryd.underlying4
theorem eq27 (d : Nat) : EqT Tryd.prog 27 (d + 2) v4 := eqT_v4 d Tryd.underlying27 Tryd.underlying5 sz5
theorem eq30 (d : Nat) : EqT Tryd.prog 30 (d + 2) v6 := eqT_v6 d Tryd.underlying30 Tryd.underlying5 sz5
theorem eq34 (d : Nat) : EqT Tryd.prog 34 (d + 3) t4 := fun w x y =>
  eq_struct Tryd.underlying34 (by kernel_rfl) (eqF_cons (a := v4 x.addr) (b := v4 y.addr) (by decide) (by kernel_rfl) (by kernel_rfl) (eq27 (d + 0) w _ _) (eqF_cons (a := .int .i64 x.port) (b := .int .i64 y.port) (by decide) (by kernel_rfl) (by kernel_rfl) (eq3 (d + 1) w _ _) eqF_nil)) (by cases x; cases y; simp)
theorem eq32 (d : Nat) : EqT Tryd.prog 32 (d + 3) t6 := fun w x y =>
  eq_struct Tryd.underlying32 (by kernel_rfl) (eqF_cons (a := v6 x.addr) (b := v6 y.addr) (by decide) (by kernel_rfl) (by kernel_rfl) (eq30 (d + 0) w _ _) (eqF_cons (a := .int .i64 x.port) (b := .int .i64 y.port) (by decide) (by kernel_rfl) (by kernel_rfl) (eq3 (d + 1) w _ _) eqF_nil)) (by cases x; cases y; simp)
theorem eq36 (d : Nat) : EqT Tryd.prog 36 (d + 4) bv := fun w x y =>
  eq_struct Tryd.underlying36 (by kernel_rfl) (eqF_cons (a := .int .i64 x.id) (b := .int .i64 y.id) (by decide) (by kernel_rfl) (by kernel_rfl) (eq3 (d + 2) w _ _) (eqF_cons (a := .int .i64 x.proto) (b := .int .i64 y.proto) (by decide) (by kernel_rfl) (by kernel_rfl) (eq3 (d + 2) w _ _) (eqF_cons (a := t6 x.inn) (b := t6 y.inn) (by decide) (by kernel_rfl) (by kernel_rfl) (eq32 (d + 0) w _ _) (eqF_cons (a := t4 x.out) (b := t4 y.out) (by decide) (by kernel_rfl) (by kernel_rfl) (eq34 (d + 0) w _ _) (eqF_cons (a := .bool x.static) (b := .bool y.static) (by decide) (by kernel_rfl) (by kernel_rfl) (eq4 (d + 2) w _ _) (eqF_cons (a := .int .i64 x.sessions) (b := .int .i64 y.sessions) (by decide) (by kernel_rfl) (by kernel_rfl) (eq3 (d + 2) w _ _) eqF_nil)))))) (by cases x; cases y; simp)
theorem eg27 : Tryd.prog.eqGuardType Tryd.prog.depth 27 = false := by kernel_rfl
theorem eg30 : Tryd.prog.eqGuardType Tryd.prog.depth 30 = false := by kernel_rfl
theorem eg34 : Tryd.prog.eqGuardType Tryd.prog.depth 34 = false := by kernel_rfl
theorem eg36 : Tryd.prog.eqGuardType Tryd.prog.depth 36 = false := by kernel_rfl
theorem dlaid : laidOutB Tryd.prog = true := by kernel_rfl
theorem row34 : 34 < Tryd.prog.types.size := by
  have h : Tryd.prog.types.size = 244 := by kernel_rfl
  rw [h]; decide
theorem keyed34 : Maps.Keyed Tryd.prog 34 := Maps.Keyed.of_law (deep_law_laid dlaid (m := 4) (by omega) row34 (by kernel_rfl) (by kernel_rfl))
theorem kf34 : KF Tryd.prog 34 t4 (fun x => inI x.port) := kf_t4 keyed34 Tryd.underlying34 rfl rfl rfl rfl rfl (by kernel_rfl) Tryd.underlying27 Tryd.underlying3 Tryd.underlying5 (by kernel_rfl) (by kernel_rfl) (by kernel_rfl) (by kernel_rfl) (by kernel_rfl) (d := 242) (by kernel_rfl)
theorem kf3 : KF Tryd.prog 3 (fun n : Int => .int .i64 n) inI := kf_int Tryd.underlying3
theorem ti27 : TyInfo Tryd.prog 27 4 4 (.agg #[.int .u8 0, .int .u8 0, .int .u8 0, .int .u8 0]) := by unfold TyInfo; kernel_rfl
theorem ti159 : TyInfo Tryd.prog 159 3 32 (.agg #[.string .empty, .int .i64 0, .bool false]) := by unfold TyInfo; kernel_rfl
end Go.Proofs.YtdcnblafepgheaaDoor
