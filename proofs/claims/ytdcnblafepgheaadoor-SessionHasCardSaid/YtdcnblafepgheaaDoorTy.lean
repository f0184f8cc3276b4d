/-
  Small facts on the types and the functions of this translation, each reckoned by the kernel. Written by a program (wip/tools/gfacts.py).
-/
import Derived.Test.YtdcnblafepgheaaDoorV1
import Derived.Test.YtdcnblafepgheaaDoorProg
namespace Go.Proofs.YtdcnblafepgheaaDoor
open Go Go.V
set_option maxRecDepth 100000
theorem sc3 : TySc Tryd.prog 3 := ⟨fun _ => by kernel_rfl, fun _ => by kernel_rfl⟩
theorem sz3 : TySz Tryd.prog 3 1 := sc3.sz
theorem ze3 : TyZero Tryd.prog 3 (.int .i64 0) := fun _ => by kernel_rfl
theorem sc4 : TySc Tryd.prog 4 := ⟨fun _ => by kernel_rfl, fun _ => by kernel_rfl⟩
theorem sz4 : TySz Tryd.prog 4 1 := sc4.sz
theorem sc5 : TySc Tryd.prog 5 := ⟨fun _ => by kernel_rfl, fun _ => by kernel_rfl⟩
theorem sz5 : TySz Tryd.prog 5 1 := sc5.sz
theorem sc9 : TySc Tryd.prog 9 := ⟨fun _ => by kernel_rfl, fun _ => by kernel_rfl⟩
theorem sz9 : TySz Tryd.prog 9 1 := sc9.sz
theorem ag27 : TyAgg Tryd.prog 27 4 := ⟨fun _ => by kernel_rfl, fun _ => by kernel_rfl⟩
theorem sz27 : TySz Tryd.prog 27 4 := ag27.sz
theorem ao27 : ArrOf Tryd.prog 27 4 5 := by unfold ArrOf; kernel_rfl
theorem ag34 : TyAgg Tryd.prog 34 5 := ⟨fun _ => by kernel_rfl, fun _ => by kernel_rfl⟩
theorem sz34 : TySz Tryd.prog 34 5 := ag34.sz
theorem ze34 : TyZero Tryd.prog 34 (.agg #[.int .u8 0, .int .u8 0, .int .u8 0, .int .u8 0, .int .i64 0]) := fun _ => by kernel_rfl
theorem so52 : SlcOf Tryd.prog 52 57 := by unfold SlcOf; kernel_rfl
theorem ag57 : TyAgg Tryd.prog 57 7 := ⟨fun _ => by kernel_rfl, fun _ => by kernel_rfl⟩
theorem sz57 : TySz Tryd.prog 57 7 := ag57.sz
theorem ze57 : TyZero Tryd.prog 57 (.agg #[.int .u8 0, .int .u8 0, .int .i64 0, .int .i64 0, .int .i64 0, .int .i64 0, .int .i64 0]) := fun _ => by kernel_rfl
theorem ag59 : TyAgg Tryd.prog 59 9 := ⟨fun _ => by kernel_rfl, fun _ => by kernel_rfl⟩
theorem sz59 : TySz Tryd.prog 59 9 := ag59.sz
theorem ze59 : TyZero Tryd.prog 59 (.agg #[.int .i64 0, .int .i64 0, .int .u8 0, .int .u8 0, .int .u8 0, .int .u8 0, .int .i64 0, .int .i64 0, .int .i64 0]) := fun _ => by kernel_rfl
theorem so63 : SlcOf Tryd.prog 63 59 := by unfold SlcOf; kernel_rfl
theorem sc85 : TySc Tryd.prog 85 := ⟨fun _ => by kernel_rfl, fun _ => by kernel_rfl⟩
theorem sz85 : TySz Tryd.prog 85 1 := sc85.sz
theorem so87 : SlcOf Tryd.prog 87 3 := by unfold SlcOf; kernel_rfl
theorem sc88 : TySc Tryd.prog 88 := ⟨fun _ => by kernel_rfl, fun _ => by kernel_rfl⟩
theorem sz88 : TySz Tryd.prog 88 1 := sc88.sz
theorem sc110 : TySc Tryd.prog 110 := ⟨fun _ => by kernel_rfl, fun _ => by kernel_rfl⟩
theorem sz110 : TySz Tryd.prog 110 1 := sc110.sz
theorem sc111 : TySc Tryd.prog 111 := ⟨fun _ => by kernel_rfl, fun _ => by kernel_rfl⟩
theorem sz111 : TySz Tryd.prog 111 1 := sc111.sz
theorem sc113 : TySc Tryd.prog 113 := ⟨fun _ => by kernel_rfl, fun _ => by kernel_rfl⟩
theorem sz113 : TySz Tryd.prog 113 1 := sc113.sz
theorem ze116 : TyZero Tryd.prog 116 (.pointer none) := fun _ => by kernel_rfl
theorem ze120 : TyZero Tryd.prog 120 (.map none) := fun _ => by kernel_rfl
theorem sc139 : TySc Tryd.prog 139 := ⟨fun _ => by kernel_rfl, fun _ => by kernel_rfl⟩
theorem sz139 : TySz Tryd.prog 139 1 := sc139.sz
theorem so139 : SlcOf Tryd.prog 139 159 := by unfold SlcOf; kernel_rfl
theorem sc150 : TySc Tryd.prog 150 := ⟨fun _ => by kernel_rfl, fun _ => by kernel_rfl⟩
theorem sz150 : TySz Tryd.prog 150 1 := sc150.sz
theorem sc151 : TySc Tryd.prog 151 := ⟨fun _ => by kernel_rfl, fun _ => by kernel_rfl⟩
theorem sz151 : TySz Tryd.prog 151 1 := sc151.sz
theorem so151 : SlcOf Tryd.prog 151 164 := by unfold SlcOf; kernel_rfl
theorem ag159 : TyAgg Tryd.prog 159 3 := ⟨fun _ => by kernel_rfl, fun _ => by kernel_rfl⟩
theorem sz159 : TySz Tryd.prog 159 3 := ag159.sz
theorem ze159 : TyZero Tryd.prog 159 (.agg #[.string .empty, .int .i64 0, .bool false]) := fun _ => by kernel_rfl
theorem ag164 : TyAgg Tryd.prog 164 2 := ⟨fun _ => by kernel_rfl, fun _ => by kernel_rfl⟩
theorem sz164 : TySz Tryd.prog 164 2 := ag164.sz
theorem ze164 : TyZero Tryd.prog 164 (.agg #[.int .i64 0, .int .i64 0]) := fun _ => by kernel_rfl
theorem fo34_0 : FldOff Tryd.prog 34 0 0 := ⟨_, _, Tryd.underlying34, rfl, rfl, 3, sz27⟩
theorem fo34_1 : FldOff Tryd.prog 34 1 4 := ⟨_, _, Tryd.underlying34, rfl, rfl, 0, sz3⟩
theorem fo57_0 : FldOff Tryd.prog 57 0 0 := ⟨_, _, Tryd.underlying57, rfl, rfl, 0, sz5⟩
theorem fo57_1 : FldOff Tryd.prog 57 1 1 := ⟨_, _, Tryd.underlying57, rfl, rfl, 0, sz5⟩
theorem fo57_2 : FldOff Tryd.prog 57 2 2 := ⟨_, _, Tryd.underlying57, rfl, rfl, 0, sz3⟩
theorem fo57_3 : FldOff Tryd.prog 57 3 3 := ⟨_, _, Tryd.underlying57, rfl, rfl, 0, sz3⟩
theorem fo57_4 : FldOff Tryd.prog 57 4 4 := ⟨_, _, Tryd.underlying57, rfl, rfl, 0, sz3⟩
theorem fo57_5 : FldOff Tryd.prog 57 5 5 := ⟨_, _, Tryd.underlying57, rfl, rfl, 0, sz3⟩
theorem fo57_6 : FldOff Tryd.prog 57 6 6 := ⟨_, _, Tryd.underlying57, rfl, rfl, 0, sz3⟩
theorem fo59_0 : FldOff Tryd.prog 59 0 0 := ⟨_, _, Tryd.underlying59, rfl, rfl, 0, sz3⟩
theorem fo59_1 : FldOff Tryd.prog 59 1 1 := ⟨_, _, Tryd.underlying59, rfl, rfl, 0, sz3⟩
theorem fo59_2 : FldOff Tryd.prog 59 2 2 := ⟨_, _, Tryd.underlying59, rfl, rfl, 4, sz34⟩
theorem fo59_3 : FldOff Tryd.prog 59 3 7 := ⟨_, _, Tryd.underlying59, rfl, rfl, 0, sz3⟩
theorem fo59_4 : FldOff Tryd.prog 59 4 8 := ⟨_, _, Tryd.underlying59, rfl, rfl, 0, sz3⟩
theorem fo115_0 : FldOff Tryd.prog 115 0 0 := ⟨_, _, Tryd.underlying115, rfl, rfl, 0, sz3⟩
theorem fo115_1 : FldOff Tryd.prog 115 1 1 := ⟨_, _, Tryd.underlying115, rfl, rfl, 0, sz3⟩
theorem fo115_2 : FldOff Tryd.prog 115 2 2 := ⟨_, _, Tryd.underlying115, rfl, rfl, 0, sz110⟩
theorem fo115_3 : FldOff Tryd.prog 115 3 3 := ⟨_, _, Tryd.underlying115, rfl, rfl, 0, sz88⟩
theorem fo115_4 : FldOff Tryd.prog 115 4 4 := ⟨_, _, Tryd.underlying115, rfl, rfl, 0, sz111⟩
theorem fo115_5 : FldOff Tryd.prog 115 5 5 := ⟨_, _, Tryd.underlying115, rfl, rfl, 0, sz113⟩
theorem fo141_0 : FldOff Tryd.prog 141 0 0 := ⟨_, _, Tryd.underlying141, rfl, rfl, 0, sz139⟩
theorem fo141_1 : FldOff Tryd.prog 141 1 1 := ⟨_, _, Tryd.underlying141, rfl, rfl, 0, sz3⟩
theorem fo141_2 : FldOff Tryd.prog 141 2 2 := ⟨_, _, Tryd.underlying141, rfl, rfl, 0, sz3⟩
theorem fo153_0 : FldOff Tryd.prog 153 0 0 := ⟨_, _, Tryd.underlying153, rfl, rfl, 0, sz151⟩
theorem fo153_1 : FldOff Tryd.prog 153 1 1 := ⟨_, _, Tryd.underlying153, rfl, rfl, 0, sz85⟩
theorem fo155_0 : FldOff Tryd.prog 155 0 0 := ⟨_, _, Tryd.underlying155, rfl, rfl, 0, sz150⟩
theorem fo159_0 : FldOff Tryd.prog 159 0 0 := ⟨_, _, Tryd.underlying159, rfl, rfl, 0, sz9⟩
theorem fo159_1 : FldOff Tryd.prog 159 1 1 := ⟨_, _, Tryd.underlying159, rfl, rfl, 0, sz3⟩
theorem fo159_2 : FldOff Tryd.prog 159 2 2 := ⟨_, _, Tryd.underlying159, rfl, rfl, 0, sz4⟩
theorem fo164_0 : FldOff Tryd.prog 164 0 0 := ⟨_, _, Tryd.underlying164, rfl, rfl, 0, sz3⟩
theorem fo164_1 : FldOff Tryd.prog 164 1 1 := ⟨_, _, Tryd.underlying164, rfl, rfl, 0, sz3⟩
theorem ca25 : Cal Tryd.prog 25 := Cal.mk' Tryd.func25 (by kernel_rfl) (by kernel_rfl)
theorem ca26 : Cal Tryd.prog 26 := Cal.mk' Tryd.func26 (by kernel_rfl) (by kernel_rfl)
theorem ca27 : Cal Tryd.prog 27 := Cal.mk' Tryd.func27 (by kernel_rfl) (by kernel_rfl)
theorem ca28 : Cal Tryd.prog 28 := Cal.mk' Tryd.func28 (by kernel_rfl) (by kernel_rfl)
theorem ca29 : Cal Tryd.prog 29 := Cal.mk' Tryd.func29 (by kernel_rfl) (by kernel_rfl)
theorem ca30 : Cal Tryd.prog 30 := Cal.mk' Tryd.func30 (by kernel_rfl) (by kernel_rfl)
theorem ca31 : Cal Tryd.prog 31 := Cal.mk' Tryd.func31 (by kernel_rfl) (by kernel_rfl)
theorem ca32 : Cal Tryd.prog 32 := Cal.mk' Tryd.func32 (by kernel_rfl) (by kernel_rfl)
theorem ca34 : Cal Tryd.prog 34 := Cal.mk' Tryd.func34 (by kernel_rfl) (by kernel_rfl)
theorem ca35 : Cal Tryd.prog 35 := Cal.mk' Tryd.func35 (by kernel_rfl) (by kernel_rfl)
theorem ca36 : Cal Tryd.prog 36 := Cal.mk' Tryd.func36 (by kernel_rfl) (by kernel_rfl)
theorem ca37 : Cal Tryd.prog 37 := Cal.mk' Tryd.func37 (by kernel_rfl) (by kernel_rfl)
theorem ca44 : Cal Tryd.prog 44 := Cal.mk' Tryd.func44 (by kernel_rfl) (by kernel_rfl)
theorem ca60 : Cal Tryd.prog 60 := Cal.mk' Tryd.func60 (by kernel_rfl) (by kernel_rfl)
theorem ca61 : Cal Tryd.prog 61 := Cal.mk' Tryd.func61 (by kernel_rfl) (by kernel_rfl)
theorem ca62 : Cal Tryd.prog 62 := Cal.mk' Tryd.func62 (by kernel_rfl) (by kernel_rfl)
theorem ca63 : Cal Tryd.prog 63 := Cal.mk' Tryd.func63 (by kernel_rfl) (by kernel_rfl)
theorem ca64 : Cal Tryd.prog 64 := Cal.mk' Tryd.func64 (by kernel_rfl) (by kernel_rfl)
theorem ca65 : Cal Tryd.prog 65 := Cal.mk' Tryd.func65 (by kernel_rfl) (by kernel_rfl)
theorem ca66 : Cal Tryd.prog 66 := Cal.mk' Tryd.func66 (by kernel_rfl) (by kernel_rfl)
theorem ca67 : Cal Tryd.prog 67 := Cal.mk' Tryd.func67 (by kernel_rfl) (by kernel_rfl)
theorem ca68 : Cal Tryd.prog 68 := Cal.mk' Tryd.func68 (by kernel_rfl) (by kernel_rfl)
theorem ca69 : Cal Tryd.prog 69 := Cal.mk' Tryd.func69 (by kernel_rfl) (by kernel_rfl)
theorem ca70 : Cal Tryd.prog 70 := Cal.mk' Tryd.func70 (by kernel_rfl) (by kernel_rfl)
theorem ca71 : Cal Tryd.prog 71 := Cal.mk' Tryd.func71 (by kernel_rfl) (by kernel_rfl)
theorem ca72 : Cal Tryd.prog 72 := Cal.mk' Tryd.func72 (by kernel_rfl) (by kernel_rfl)
theorem ca73 : Cal Tryd.prog 73 := Cal.mk' Tryd.func73 (by kernel_rfl) (by kernel_rfl)
theorem ca74 : Cal Tryd.prog 74 := Cal.mk' Tryd.func74 (by kernel_rfl) (by kernel_rfl)
theorem ca87 : Cal Tryd.prog 87 := Cal.mk' Tryd.func87 (by kernel_rfl) (by kernel_rfl)
theorem ca88 : Cal Tryd.prog 88 := Cal.mk' Tryd.func88 (by kernel_rfl) (by kernel_rfl)
theorem ca89 : Cal Tryd.prog 89 := Cal.mk' Tryd.func89 (by kernel_rfl) (by kernel_rfl)
theorem ca90 : Cal Tryd.prog 90 := Cal.mk' Tryd.func90 (by kernel_rfl) (by kernel_rfl)
theorem ca91 : Cal Tryd.prog 91 := Cal.mk' Tryd.func91 (by kernel_rfl) (by kernel_rfl)
theorem ca92 : Cal Tryd.prog 92 := Cal.mk' Tryd.func92 (by kernel_rfl) (by kernel_rfl)
theorem ca93 : Cal Tryd.prog 93 := Cal.mk' Tryd.func93 (by kernel_rfl) (by kernel_rfl)
theorem ca94 : Cal Tryd.prog 94 := Cal.mk' Tryd.func94 (by kernel_rfl) (by kernel_rfl)
theorem ca95 : Cal Tryd.prog 95 := Cal.mk' Tryd.func95 (by kernel_rfl) (by kernel_rfl)
theorem ca96 : Cal Tryd.prog 96 := Cal.mk' Tryd.func96 (by kernel_rfl) (by kernel_rfl)
theorem ca98 : Cal Tryd.prog 98 := Cal.mk' Tryd.func98 (by kernel_rfl) (by kernel_rfl)
theorem ca99 : Cal Tryd.prog 99 := Cal.mk' Tryd.func99 (by kernel_rfl) (by kernel_rfl)
theorem ca100 : Cal Tryd.prog 100 := Cal.mk' Tryd.func100 (by kernel_rfl) (by kernel_rfl)
theorem ca106 : Cal Tryd.prog 106 := Cal.mk' Tryd.func106 (by kernel_rfl) (by kernel_rfl)
theorem ca108 : Cal Tryd.prog 108 := Cal.mk' Tryd.func108 (by kernel_rfl) (by kernel_rfl)
theorem ca109 : Cal Tryd.prog 109 := Cal.mk' Tryd.func109 (by kernel_rfl) (by kernel_rfl)
theorem ca180 : Cal Tryd.prog 180 := Cal.mk' Tryd.func180 (by kernel_rfl) (by kernel_rfl)
theorem mixed : Tryd.prog.follows .mixedOrders = true := by kernel_rfl
end Go.Proofs.YtdcnblafepgheaaDoor
