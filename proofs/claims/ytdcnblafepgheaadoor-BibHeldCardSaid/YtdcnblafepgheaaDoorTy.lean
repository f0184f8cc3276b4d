/-
  Small facts on the types and the functions of this translation, each reckoned by the kernel. Written by a program (wip/tools/gfacts.py).
-/
import Derived.Test.YtdcnblafepgheaaDoorV1
import Derived.Test.YtdcnblafepgheaaDoorProg
namespace Go.Proofs.YtdcnblafepgheaaDoor
open Go Go.V
set_option maxRecDepth 100000
theorem sc3 : TySc Tryd.prog 3 := ⟨fun _ => by kernel_rfl, fun _ => by kernel_rfl⟩
theorem sz3 : TySz Tryd.prog 3 1 := sc3.sz
theorem sc4 : TySc Tryd.prog 4 := ⟨fun _ => by kernel_rfl, fun _ => by kernel_rfl⟩
theorem sz4 : TySz Tryd.prog 4 1 := sc4.sz
theorem ze4 : TyZero Tryd.prog 4 (.bool false) := fun _ => by kernel_rfl
theorem sc5 : TySc Tryd.prog 5 := ⟨fun _ => by kernel_rfl, fun _ => by kernel_rfl⟩
theorem sz5 : TySz Tryd.prog 5 1 := sc5.sz
theorem sc9 : TySc Tryd.prog 9 := ⟨fun _ => by kernel_rfl, fun _ => by kernel_rfl⟩
theorem sz9 : TySz Tryd.prog 9 1 := sc9.sz
theorem ag27 : TyAgg Tryd.prog 27 4 := ⟨fun _ => by kernel_rfl, fun _ => by kernel_rfl⟩
theorem sz27 : TySz Tryd.prog 27 4 := ag27.sz
theorem ze27 : TyZero Tryd.prog 27 (.agg #[.int .u8 0, .int .u8 0, .int .u8 0, .int .u8 0]) := fun _ => by kernel_rfl
theorem ao27 : ArrOf Tryd.prog 27 4 5 := by unfold ArrOf; kernel_rfl
theorem sc28 : TySc Tryd.prog 28 := ⟨fun _ => by kernel_rfl, fun _ => by kernel_rfl⟩
theorem sz28 : TySz Tryd.prog 28 1 := sc28.sz
theorem so28 : SlcOf Tryd.prog 28 27 := by unfold SlcOf; kernel_rfl
theorem ag30 : TyAgg Tryd.prog 30 16 := ⟨fun _ => by kernel_rfl, fun _ => by kernel_rfl⟩
theorem sz30 : TySz Tryd.prog 30 16 := ag30.sz
theorem ao30 : ArrOf Tryd.prog 30 16 5 := by unfold ArrOf; kernel_rfl
theorem ag32 : TyAgg Tryd.prog 32 17 := ⟨fun _ => by kernel_rfl, fun _ => by kernel_rfl⟩
theorem sz32 : TySz Tryd.prog 32 17 := ag32.sz
theorem ze32 : TyZero Tryd.prog 32 (.agg #[.int .u8 0, .int .u8 0, .int .u8 0, .int .u8 0, .int .u8 0, .int .u8 0, .int .u8 0, .int .u8 0, .int .u8 0, .int .u8 0, .int .u8 0, .int .u8 0, .int .u8 0, .int .u8 0, .int .u8 0, .int .u8 0, .int .i64 0]) := fun _ => by kernel_rfl
theorem ag34 : TyAgg Tryd.prog 34 5 := ⟨fun _ => by kernel_rfl, fun _ => by kernel_rfl⟩
theorem sz34 : TySz Tryd.prog 34 5 := ag34.sz
theorem ze34 : TyZero Tryd.prog 34 (.agg #[.int .u8 0, .int .u8 0, .int .u8 0, .int .u8 0, .int .i64 0]) := fun _ => by kernel_rfl
theorem ag36 : TyAgg Tryd.prog 36 26 := ⟨fun _ => by kernel_rfl, fun _ => by kernel_rfl⟩
theorem sz36 : TySz Tryd.prog 36 26 := ag36.sz
theorem ze36 : TyZero Tryd.prog 36 (.agg #[.int .i64 0, .int .i64 0, .int .u8 0, .int .u8 0, .int .u8 0, .int .u8 0, .int .u8 0, .int .u8 0, .int .u8 0, .int .u8 0, .int .u8 0, .int .u8 0, .int .u8 0, .int .u8 0, .int .u8 0, .int .u8 0, .int .u8 0, .int .u8 0, .int .i64 0, .int .u8 0, .int .u8 0, .int .u8 0, .int .u8 0, .int .i64 0, .bool false, .int .i64 0]) := fun _ => by kernel_rfl
theorem so74 : SlcOf Tryd.prog 74 76 := by unfold SlcOf; kernel_rfl
theorem so87 : SlcOf Tryd.prog 87 3 := by unfold SlcOf; kernel_rfl
theorem sc88 : TySc Tryd.prog 88 := ⟨fun _ => by kernel_rfl, fun _ => by kernel_rfl⟩
theorem sz88 : TySz Tryd.prog 88 1 := sc88.sz
theorem sc91 : TySc Tryd.prog 91 := ⟨fun _ => by kernel_rfl, fun _ => by kernel_rfl⟩
theorem sz91 : TySz Tryd.prog 91 1 := sc91.sz
theorem sc92 : TySc Tryd.prog 92 := ⟨fun _ => by kernel_rfl, fun _ => by kernel_rfl⟩
theorem sz92 : TySz Tryd.prog 92 1 := sc92.sz
theorem ag93 : TyAgg Tryd.prog 93 3 := ⟨fun _ => by kernel_rfl, fun _ => by kernel_rfl⟩
theorem sz93 : TySz Tryd.prog 93 3 := ag93.sz
theorem ao93 : ArrOf Tryd.prog 93 3 92 := by unfold ArrOf; kernel_rfl
theorem ze101 : TyZero Tryd.prog 101 (.pointer none) := fun _ => by kernel_rfl
theorem sc139 : TySc Tryd.prog 139 := ⟨fun _ => by kernel_rfl, fun _ => by kernel_rfl⟩
theorem sz139 : TySz Tryd.prog 139 1 := sc139.sz
theorem so139 : SlcOf Tryd.prog 139 159 := by unfold SlcOf; kernel_rfl
theorem sc144 : TySc Tryd.prog 144 := ⟨fun _ => by kernel_rfl, fun _ => by kernel_rfl⟩
theorem sz144 : TySz Tryd.prog 144 1 := sc144.sz
theorem ag159 : TyAgg Tryd.prog 159 3 := ⟨fun _ => by kernel_rfl, fun _ => by kernel_rfl⟩
theorem sz159 : TySz Tryd.prog 159 3 := ag159.sz
theorem ze159 : TyZero Tryd.prog 159 (.agg #[.string .empty, .int .i64 0, .bool false]) := fun _ => by kernel_rfl
theorem fo32_0 : FldOff Tryd.prog 32 0 0 := ⟨_, _, Tryd.underlying32, rfl, rfl, 15, sz30⟩
theorem fo32_1 : FldOff Tryd.prog 32 1 16 := ⟨_, _, Tryd.underlying32, rfl, rfl, 0, sz3⟩
theorem fo34_0 : FldOff Tryd.prog 34 0 0 := ⟨_, _, Tryd.underlying34, rfl, rfl, 3, sz27⟩
theorem fo34_1 : FldOff Tryd.prog 34 1 4 := ⟨_, _, Tryd.underlying34, rfl, rfl, 0, sz3⟩
theorem fo36_0 : FldOff Tryd.prog 36 0 0 := ⟨_, _, Tryd.underlying36, rfl, rfl, 0, sz3⟩
theorem fo36_1 : FldOff Tryd.prog 36 1 1 := ⟨_, _, Tryd.underlying36, rfl, rfl, 0, sz3⟩
theorem fo36_2 : FldOff Tryd.prog 36 2 2 := ⟨_, _, Tryd.underlying36, rfl, rfl, 16, sz32⟩
theorem fo36_3 : FldOff Tryd.prog 36 3 19 := ⟨_, _, Tryd.underlying36, rfl, rfl, 4, sz34⟩
theorem fo36_4 : FldOff Tryd.prog 36 4 24 := ⟨_, _, Tryd.underlying36, rfl, rfl, 0, sz4⟩
theorem fo36_5 : FldOff Tryd.prog 36 5 25 := ⟨_, _, Tryd.underlying36, rfl, rfl, 0, sz3⟩
theorem fo95_0 : FldOff Tryd.prog 95 0 0 := ⟨_, _, Tryd.underlying95, rfl, rfl, 0, sz3⟩
theorem fo95_1 : FldOff Tryd.prog 95 1 1 := ⟨_, _, Tryd.underlying95, rfl, rfl, 0, sz3⟩
theorem fo95_2 : FldOff Tryd.prog 95 2 2 := ⟨_, _, Tryd.underlying95, rfl, rfl, 3, sz27⟩
theorem fo95_3 : FldOff Tryd.prog 95 3 6 := ⟨_, _, Tryd.underlying95, rfl, rfl, 0, sz91⟩
theorem fo95_4 : FldOff Tryd.prog 95 4 7 := ⟨_, _, Tryd.underlying95, rfl, rfl, 0, sz88⟩
theorem fo95_5 : FldOff Tryd.prog 95 5 8 := ⟨_, _, Tryd.underlying95, rfl, rfl, 0, sz88⟩
theorem fo95_6 : FldOff Tryd.prog 95 6 9 := ⟨_, _, Tryd.underlying95, rfl, rfl, 2, sz93⟩
theorem fo141_0 : FldOff Tryd.prog 141 0 0 := ⟨_, _, Tryd.underlying141, rfl, rfl, 0, sz139⟩
theorem fo141_1 : FldOff Tryd.prog 141 1 1 := ⟨_, _, Tryd.underlying141, rfl, rfl, 0, sz3⟩
theorem fo141_2 : FldOff Tryd.prog 141 2 2 := ⟨_, _, Tryd.underlying141, rfl, rfl, 0, sz3⟩
theorem fo146_0 : FldOff Tryd.prog 146 0 0 := ⟨_, _, Tryd.underlying146, rfl, rfl, 0, sz28⟩
theorem fo146_1 : FldOff Tryd.prog 146 1 1 := ⟨_, _, Tryd.underlying146, rfl, rfl, 0, sz3⟩
theorem fo146_2 : FldOff Tryd.prog 146 2 2 := ⟨_, _, Tryd.underlying146, rfl, rfl, 0, sz3⟩
theorem fo146_3 : FldOff Tryd.prog 146 3 3 := ⟨_, _, Tryd.underlying146, rfl, rfl, 0, sz144⟩
theorem fo159_0 : FldOff Tryd.prog 159 0 0 := ⟨_, _, Tryd.underlying159, rfl, rfl, 0, sz9⟩
theorem fo159_1 : FldOff Tryd.prog 159 1 1 := ⟨_, _, Tryd.underlying159, rfl, rfl, 0, sz3⟩
theorem fo159_2 : FldOff Tryd.prog 159 2 2 := ⟨_, _, Tryd.underlying159, rfl, rfl, 0, sz4⟩
theorem ca12 : Cal Tryd.prog 12 := Cal.mk' Tryd.func12 (by kernel_rfl) (by kernel_rfl)
theorem ca13 : Cal Tryd.prog 13 := Cal.mk' Tryd.func13 (by kernel_rfl) (by kernel_rfl)
theorem ca14 : Cal Tryd.prog 14 := Cal.mk' Tryd.func14 (by kernel_rfl) (by kernel_rfl)
theorem ca15 : Cal Tryd.prog 15 := Cal.mk' Tryd.func15 (by kernel_rfl) (by kernel_rfl)
theorem ca16 : Cal Tryd.prog 16 := Cal.mk' Tryd.func16 (by kernel_rfl) (by kernel_rfl)
theorem ca17 : Cal Tryd.prog 17 := Cal.mk' Tryd.func17 (by kernel_rfl) (by kernel_rfl)
theorem ca18 : Cal Tryd.prog 18 := Cal.mk' Tryd.func18 (by kernel_rfl) (by kernel_rfl)
theorem ca19 : Cal Tryd.prog 19 := Cal.mk' Tryd.func19 (by kernel_rfl) (by kernel_rfl)
theorem ca20 : Cal Tryd.prog 20 := Cal.mk' Tryd.func20 (by kernel_rfl) (by kernel_rfl)
theorem ca21 : Cal Tryd.prog 21 := Cal.mk' Tryd.func21 (by kernel_rfl) (by kernel_rfl)
theorem ca22 : Cal Tryd.prog 22 := Cal.mk' Tryd.func22 (by kernel_rfl) (by kernel_rfl)
theorem ca23 : Cal Tryd.prog 23 := Cal.mk' Tryd.func23 (by kernel_rfl) (by kernel_rfl)
theorem ca24 : Cal Tryd.prog 24 := Cal.mk' Tryd.func24 (by kernel_rfl) (by kernel_rfl)
theorem ca41 : Cal Tryd.prog 41 := Cal.mk' Tryd.func41 (by kernel_rfl) (by kernel_rfl)
theorem ca42 : Cal Tryd.prog 42 := Cal.mk' Tryd.func42 (by kernel_rfl) (by kernel_rfl)
theorem ca43 : Cal Tryd.prog 43 := Cal.mk' Tryd.func43 (by kernel_rfl) (by kernel_rfl)
theorem ca44 : Cal Tryd.prog 44 := Cal.mk' Tryd.func44 (by kernel_rfl) (by kernel_rfl)
theorem ca45 : Cal Tryd.prog 45 := Cal.mk' Tryd.func45 (by kernel_rfl) (by kernel_rfl)
theorem ca46 : Cal Tryd.prog 46 := Cal.mk' Tryd.func46 (by kernel_rfl) (by kernel_rfl)
theorem ca47 : Cal Tryd.prog 47 := Cal.mk' Tryd.func47 (by kernel_rfl) (by kernel_rfl)
theorem ca48 : Cal Tryd.prog 48 := Cal.mk' Tryd.func48 (by kernel_rfl) (by kernel_rfl)
theorem ca49 : Cal Tryd.prog 49 := Cal.mk' Tryd.func49 (by kernel_rfl) (by kernel_rfl)
theorem ca50 : Cal Tryd.prog 50 := Cal.mk' Tryd.func50 (by kernel_rfl) (by kernel_rfl)
theorem ca51 : Cal Tryd.prog 51 := Cal.mk' Tryd.func51 (by kernel_rfl) (by kernel_rfl)
theorem ca52 : Cal Tryd.prog 52 := Cal.mk' Tryd.func52 (by kernel_rfl) (by kernel_rfl)
theorem ca53 : Cal Tryd.prog 53 := Cal.mk' Tryd.func53 (by kernel_rfl) (by kernel_rfl)
theorem ca54 : Cal Tryd.prog 54 := Cal.mk' Tryd.func54 (by kernel_rfl) (by kernel_rfl)
theorem ca55 : Cal Tryd.prog 55 := Cal.mk' Tryd.func55 (by kernel_rfl) (by kernel_rfl)
theorem ca56 : Cal Tryd.prog 56 := Cal.mk' Tryd.func56 (by kernel_rfl) (by kernel_rfl)
theorem ca57 : Cal Tryd.prog 57 := Cal.mk' Tryd.func57 (by kernel_rfl) (by kernel_rfl)
theorem ca58 : Cal Tryd.prog 58 := Cal.mk' Tryd.func58 (by kernel_rfl) (by kernel_rfl)
theorem ca59 : Cal Tryd.prog 59 := Cal.mk' Tryd.func59 (by kernel_rfl) (by kernel_rfl)
theorem ca62 : Cal Tryd.prog 62 := Cal.mk' Tryd.func62 (by kernel_rfl) (by kernel_rfl)
theorem ca65 : Cal Tryd.prog 65 := Cal.mk' Tryd.func65 (by kernel_rfl) (by kernel_rfl)
theorem ca73 : Cal Tryd.prog 73 := Cal.mk' Tryd.func73 (by kernel_rfl) (by kernel_rfl)
theorem ca78 : Cal Tryd.prog 78 := Cal.mk' Tryd.func78 (by kernel_rfl) (by kernel_rfl)
theorem ca79 : Cal Tryd.prog 79 := Cal.mk' Tryd.func79 (by kernel_rfl) (by kernel_rfl)
theorem ca80 : Cal Tryd.prog 80 := Cal.mk' Tryd.func80 (by kernel_rfl) (by kernel_rfl)
theorem ca81 : Cal Tryd.prog 81 := Cal.mk' Tryd.func81 (by kernel_rfl) (by kernel_rfl)
theorem ca82 : Cal Tryd.prog 82 := Cal.mk' Tryd.func82 (by kernel_rfl) (by kernel_rfl)
theorem ca83 : Cal Tryd.prog 83 := Cal.mk' Tryd.func83 (by kernel_rfl) (by kernel_rfl)
theorem ca84 : Cal Tryd.prog 84 := Cal.mk' Tryd.func84 (by kernel_rfl) (by kernel_rfl)
theorem ca85 : Cal Tryd.prog 85 := Cal.mk' Tryd.func85 (by kernel_rfl) (by kernel_rfl)
theorem ca86 : Cal Tryd.prog 86 := Cal.mk' Tryd.func86 (by kernel_rfl) (by kernel_rfl)
theorem ca87 : Cal Tryd.prog 87 := Cal.mk' Tryd.func87 (by kernel_rfl) (by kernel_rfl)
theorem ca88 : Cal Tryd.prog 88 := Cal.mk' Tryd.func88 (by kernel_rfl) (by kernel_rfl)
theorem ca89 : Cal Tryd.prog 89 := Cal.mk' Tryd.func89 (by kernel_rfl) (by kernel_rfl)
theorem ca104 : Cal Tryd.prog 104 := Cal.mk' Tryd.func104 (by kernel_rfl) (by kernel_rfl)
theorem ca105 : Cal Tryd.prog 105 := Cal.mk' Tryd.func105 (by kernel_rfl) (by kernel_rfl)
theorem ca106 : Cal Tryd.prog 106 := Cal.mk' Tryd.func106 (by kernel_rfl) (by kernel_rfl)
theorem ca121 : Cal Tryd.prog 121 := Cal.mk' Tryd.func121 (by kernel_rfl) (by kernel_rfl)
theorem ca122 : Cal Tryd.prog 122 := Cal.mk' Tryd.func122 (by kernel_rfl) (by kernel_rfl)
theorem mixed : Tryd.prog.follows .mixedOrders = true := by kernel_rfl
end Go.Proofs.YtdcnblafepgheaaDoor
