/-
  What the closing of each law of this seat shares: the library's table out of what the row lists; a world for the witness. Written by a program (wip/tools/close.py).
-/
import Derived.Test.YtdcnblafepgheaaDoorCards
import Derived.Test.YtdcnblafepgheaaDoorTie
import Derived.Test.YtdcnblafepgheaaDoorV9
import Derived.Test.YtdcnblafepgheaaDoorE5
import Derived.Stop.LaidErr
namespace Go.Proofs.YtdcnblafepgheaaDoor
open Go Go.V Go.ChangeShapes Go.WideShapes Go.ChangeAt Go.RowKit
set_option maxRecDepth 100000
theorem lwOwn : ownKnob Tryd.prog.godebug = none := by kernel_rfl
theorem lwOut : laidOutB Tryd.prog = true := by kernel_rfl
theorem lwG : Tryd.prog.globalNamed "internal/strconv.uint64pow10" = some 0 := by kernel_rfl
theorem lwGT : (Tryd.prog.globals[0]?).map (·.type) = some 220 := by kernel_rfl
theorem lwC1 : Tryd.prog.cellsOf 220 = 20 := by kernel_rfl
theorem lwC2 : Tryd.prog.cellsOf 194 = 1 := by kernel_rfl
theorem lwTb {W : World} (h : laidMetH Tryd.prog Rows.bibKnownRow.laid W) : Tb W := Lib.tabIs_of_head (rest := []) lwG lwGT Tryd.underlying220 Tryd.underlying194 lwC2 lwC1 (laidMet.tail (laidMet.tail h))
noncomputable def lwWorld (os : Os) : World := { World.holding Tryd.prog os ⟨#[], #[], []⟩ with heap := ((((World.holding Tryd.prog os ⟨#[], #[], []⟩).heap.modify 0 fun | .cells _ t f => .cells #[.int .u64 1, .int .u64 10, .int .u64 100, .int .u64 1000, .int .u64 10000, .int .u64 100000, .int .u64 1000000, .int .u64 10000000, .int .u64 100000000, .int .u64 1000000000, .int .u64 10000000000, .int .u64 100000000000, .int .u64 1000000000000, .int .u64 10000000000000, .int .u64 100000000000000, .int .u64 1000000000000000, .int .u64 10000000000000000, .int .u64 100000000000000000, .int .u64 1000000000000000000, .int .u64 10000000000000000000] t f | o => o).modify 1 fun | .cells _ t f => .cells #[.int .u8 0, .int .u8 1, .int .u8 28, .int .u8 2, .int .u8 29, .int .u8 14, .int .u8 24, .int .u8 3, .int .u8 30, .int .u8 22, .int .u8 20, .int .u8 15, .int .u8 25, .int .u8 17, .int .u8 4, .int .u8 8, .int .u8 31, .int .u8 27, .int .u8 13, .int .u8 23, .int .u8 21, .int .u8 19, .int .u8 16, .int .u8 7, .int .u8 26, .int .u8 12, .int .u8 18, .int .u8 6, .int .u8 11, .int .u8 5, .int .u8 10, .int .u8 9] t f | o => o).modify 2 fun | .cells _ t f => .cells #[.int .u8 0, .int .u8 1, .int .u8 56, .int .u8 2, .int .u8 57, .int .u8 49, .int .u8 28, .int .u8 3, .int .u8 61, .int .u8 58, .int .u8 42, .int .u8 50, .int .u8 38, .int .u8 29, .int .u8 17, .int .u8 4, .int .u8 62, .int .u8 47, .int .u8 59, .int .u8 36, .int .u8 45, .int .u8 43, .int .u8 51, .int .u8 22, .int .u8 53, .int .u8 39, .int .u8 33, .int .u8 30, .int .u8 24, .int .u8 18, .int .u8 12, .int .u8 5, .int .u8 63, .int .u8 55, .int .u8 48, .int .u8 27, .int .u8 60, .int .u8 41, .int .u8 37, .int .u8 16, .int .u8 46, .int .u8 35, .int .u8 44, .int .u8 21, .int .u8 52, .int .u8 32, .int .u8 23, .int .u8 11, .int .u8 54, .int .u8 26, .int .u8 40, .int .u8 15, .int .u8 34, .int .u8 20, .int .u8 31, .int .u8 10, .int .u8 25, .int .u8 14, .int .u8 19, .int .u8 9, .int .u8 13, .int .u8 8, .int .u8 7, .int .u8 6] t f | o => o) }
end Go.Proofs.YtdcnblafepgheaaDoor
