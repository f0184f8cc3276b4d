import Derived.Test.YtdcnblafepgheaaDoorTy
import Derived.Test.YtdcnblafepgheaaDoorV5
import Derived.DeepKeys4
namespace Go.Proofs.YtdcnblafepgheaaDoor
open Go Go.V
set_option maxRecDepth 100000
theorem eq27 (d : Nat) : EqT Tryd.prog 27 (d + 2) v4 := eqT_v4 d Tryd.underlying27 Tryd.underlying5 sz5
theorem eg27 : Tryd.prog.eqGuardType Tryd.prog.depth 27 = false := by kernel_rfl
theorem kf3 : KF Tryd.prog 3 (fun n : Int => .int .i64 n) inI := kf_int Tryd.underlying3
theorem ti59 : TyInfo Tryd.prog 59 9 48 (.agg #[.int .i64 0, .int .i64 0, .int .u8 0, .int .u8 0, .int .u8 0, .int .u8 0, .int .i64 0, .int .i64 0, .int .i64 0]) := by unfold TyInfo; kernel_rfl
theorem ti159 : TyInfo Tryd.prog 159 3 32 (.agg #[.string .empty, .int .i64 0, .bool false]) := by unfold TyInfo; kernel_rfl
theorem ti164 : TyInfo Tryd.prog 164 2 16 (.agg #[.int .i64 0, .int .i64 0]) := by unfold TyInfo; kernel_rfl
end Go.Proofs.YtdcnblafepgheaaDoor
