/-
  DERIVED: THE SHELF's CONTRACTS AT THIS DUMP, IN PLAIN WORDS (tools/lay-plain.mjs out of 'TrydShelf.lean', which tools/lay-shelf.mjs wrote): THE SAME DECLARATIONS UNDER THE SAME NAMES: 'import', 'namespace', 'open', 'def', 'theorem' AND NOTHING ELSE: no command of the shelf's: FOR A HAND-IN. Each laying: the table of numbers ('.._ren') and one theorem, a field a fact of the dump's own or the kernel's comparison; each contract: ONE APPLICATION.
-/
import Derived.Shelf.Small.Bits
import Derived.Shelf.Small.Wraps
import Derived.Shelf.Strconv.Itoa0
import Derived.Shelf.Strconv.Itoa1
import Derived.Shelf.LaysM
import Derived.Shelf.Strconv.Itoa2
import Derived.Shelf.Strconv.Itoa3
import Derived.Shelf.Slices.Turned

import Derived.Shelf.Slices.SearchI
import Derived.Shelf.SlLaysF0
import Derived.Shelf.SlLaysZI


import Derived.Test.YtdcnblafepgheaaDoorProg
namespace Go.Proofs
open Go.Shelf
def Tryd.lays122_ren : Go.Shelf.Ren := ⟨fun | 122 => 77 | 215 => 103 | n => n, fun | 3 => 3 | 4 => 4 | n => n, fun | n => n⟩
theorem Tryd.lays122 : Go.Proofs.Lays.n122 Tryd.prog Tryd.lays122_ren := {
  mixed := by kernel_rfl
  f122 := Tryd.func77.trans (congrArg some (by kernel_rfl))
  f215 := Tryd.func103.trans (congrArg some (by kernel_rfl))
  t3 := Tryd.underlying3
  a3 := Tryd.isAgg3
  z3 := Tryd.sizeOf3
  v3 := Tryd.zeroValue3
  t4 := Tryd.underlying4
  a4 := Tryd.isAgg4
  z4 := Tryd.sizeOf4
  v4 := Tryd.zeroValue4 }
open Go.RowKit in
/-- cmp.Compare at int: "Compare returns -1 if x is less than y, 0 if x equals y, +1 if x is greater than y.": IT RETURNS 'Lib.compareInt x y'; the world is as it was. (LAID: no walk: one application.) -/
theorem Tryd.cmp_Compare_int (x y : Int) (w : World) :
    Calls Tryd.prog 77 #[.int .i64 x, .int .i64 y] w fun e w' => e = .returned (.int .i64 (Lib.compareInt x y)) ∧ w' = w := Any.cmp_Compare_int Tryd.lays122 x y w
def Tryd.laysM171_ren : Go.Shelf.Ren := ⟨fun | 171 => 89 | 243 => 107 | 246 => 123 | 283 => 139 | 284 => 140 | 285 => 141 | 286 => 142 | 129 => 120 | 317 => 148 | 318 => 149 | 319 => 150 | 320 => 151 | 337 => 154 | 338 => 155 | n => n, fun | 3 => 3 | 9 => 9 | 2 => 2 | 4 => 4 | 171 => 211 | 0 => 0 | 53 => 194 | 37 => 161 | 5 => 5 | 173 => 213 | 212 => 220 | 51 => 176 | 20 => 20 | 213 => 221 | 46 => 173 | 232 => 224 | 233 => 225 | n => n, fun | 17 => 0 | 18 => 1 | 19 => 2 | n => n⟩
theorem Tryd.laysM171 : Go.Proofs.LaysM.n171 Tryd.prog Tryd.laysM171_ren := {
  mixed := by kernel_rfl
  f129 := Tryd.func120.trans (congrArg some (by kernel_rfl))
  f171 := Tryd.func89.trans (congrArg some (by kernel_rfl))
  f243 := Tryd.func107.trans (congrArg some (by kernel_rfl))
  f246 := Tryd.func123.trans (congrArg some (by kernel_rfl))
  f283 := Tryd.func139.trans (congrArg some (by kernel_rfl))
  f284 := Tryd.func140.trans (congrArg some (by kernel_rfl))
  f285 := Tryd.func141.trans (congrArg some (by kernel_rfl))
  f286 := Tryd.func142.trans (congrArg some (by kernel_rfl))
  f317 := Tryd.func148.trans (congrArg some (by kernel_rfl))
  f318 := Tryd.func149.trans (congrArg some (by kernel_rfl))
  f319 := Tryd.func150.trans (congrArg some (by kernel_rfl))
  f320 := Tryd.func151.trans (congrArg some (by kernel_rfl))
  f337 := Tryd.func154.trans (congrArg some (by kernel_rfl))
  f338 := Tryd.func155.trans (congrArg some (by kernel_rfl))
  t0 := Tryd.underlying0
  a0 := Tryd.isAgg0
  z0 := Tryd.sizeOf0
  v0 := Tryd.zeroValue0
  t2 := Tryd.underlying2
  a2 := Tryd.isAgg2
  z2 := Tryd.sizeOf2
  v2 := Tryd.zeroValue2
  t3 := Tryd.underlying3
  a3 := Tryd.isAgg3
  z3 := Tryd.sizeOf3
  v3 := Tryd.zeroValue3
  t4 := Tryd.underlying4
  a4 := Tryd.isAgg4
  z4 := Tryd.sizeOf4
  v4 := Tryd.zeroValue4
  t5 := Tryd.underlying5
  a5 := Tryd.isAgg5
  z5 := Tryd.sizeOf5
  v5 := Tryd.zeroValue5
  t9 := Tryd.underlying9
  a9 := Tryd.isAgg9
  z9 := Tryd.sizeOf9
  v9 := Tryd.zeroValue9
  t20 := Tryd.underlying20
  a20 := Tryd.isAgg20
  z20 := Tryd.sizeOf20
  v20 := Tryd.zeroValue20
  t37 := Tryd.underlying161
  a37 := Tryd.isAgg161
  z37 := Tryd.sizeOf161
  v37 := Tryd.zeroValue161
  t46 := Tryd.underlying173
  a46 := Tryd.isAgg173
  z46 := Tryd.sizeOf173
  v46 := Tryd.zeroValue173
  t51 := Tryd.underlying176
  a51 := Tryd.isAgg176
  z51 := Tryd.sizeOf176
  v51 := Tryd.zeroValue176
  t53 := Tryd.underlying194
  a53 := Tryd.isAgg194
  z53 := Tryd.sizeOf194
  v53 := Tryd.zeroValue194
  t171 := Tryd.underlying211
  a171 := Tryd.isAgg211
  z171 := Tryd.sizeOf211
  v171 := Tryd.zeroValue211
  t173 := Tryd.underlying213
  a173 := Tryd.isAgg213
  z173 := Tryd.sizeOf213
  v173 := Tryd.zeroValue213
  t212 := Tryd.underlying220
  a212 := Tryd.isAgg220
  z212 := Tryd.sizeOf220
  v212 := Tryd.zeroValue220
  t213 := Tryd.underlying221
  a213 := Tryd.isAgg221
  z213 := Tryd.sizeOf221
  t232 := Tryd.underlying224
  a232 := Tryd.isAgg224
  z232 := Tryd.sizeOf224
  v232 := Tryd.zeroValue224
  t233 := Tryd.underlying225
  a233 := Tryd.isAgg225
  z233 := Tryd.sizeOf225
  v233 := Tryd.zeroValue225
  g17 := by kernel_rfl
  g18 := by kernel_rfl
  g19 := by kernel_rfl
  i0 := by kernel_rfl
  i2 := by kernel_rfl
  i3 := by kernel_rfl
  i4 := by kernel_rfl
  i5 := by kernel_rfl
  i9 := by kernel_rfl
  i20 := by kernel_rfl
  i37 := by kernel_rfl
  i46 := by kernel_rfl
  i51 := by kernel_rfl
  i53 := by kernel_rfl
  i171 := by kernel_rfl
  i173 := by kernel_rfl
  i212 := by kernel_rfl
  i232 := by kernel_rfl
  i233 := by kernel_rfl
  m17 := by kernel_rfl
  m18 := by kernel_rfl
  m19 := by kernel_rfl }
open Go.RowKit Go.Sort Go.Lib in
/-- strconv.Itoa: "Itoa is equivalent to FormatInt(int64(i), 10).": i's DECIMAL NUMERAL ('Lib.itoa': a '-' where i is negative, then the digits), FOR EVERY int. The world behind the call: the world before it, new blocks behind the heap (the library's 'var a [24]byte'), draws. (LAID: no walk: one application.) -/
theorem Tryd.strconv_Itoa (n : Int) (h0 : -9223372036854775808 ≤ n) (h1 : n ≤ 9223372036854775807) (w : World) (htab : Lib.TabIs Tryd.prog w "internal/strconv.uint64pow10" .u64 Lib.pow10Tab) :
    Calls Tryd.prog 89 #[.int .i64 n] w fun e w' => e = .returned (.string ⟨(Lib.itoa n).toArray⟩) ∧ ∃ k os, w' = grow (w.drewN k) os := Any.strconv_Itoa Tryd.laysM171 n h0 h1 w htab
def Tryd.sortSes_ren : Go.Shelf.Ren := ⟨fun | 6 => 95 | 15 => 102 | 14 => 110 | 28 => 119 | 29 => 120 | 20 => 124 | 21 => 125 | 22 => 126 | 23 => 127 | 24 => 128 | 25 => 129 | 26 => 130 | 27 => 131 | 46 => 143 | 47 => 133 | 48 => 134 | 49 => 144 | 50 => 145 | 57 => 152 | n => n, fun | 22 => 63 | 24 => 59 | 25 => 168 | 3 => 3 | 39 => 173 | 0 => 0 | 53 => 176 | 55 => 194 | 4 => 4 | 46 => 187 | 45 => 186 | 50 => 132 | 5 => 5 | 9 => 9 | 66 => 203 | 70 => 207 | 76 => 217 | 77 => 156 | n => n, fun | n => n⟩
theorem Tryd.sortSes : Go.Proofs.SlLaysF0.n6 Tryd.prog Tryd.sortSes_ren := {
  mixed := by kernel_rfl
  f6 := ⟨Tryd.f95.name, by decide, Tryd.func95.trans (congrArg some (by kernel_rfl))⟩
  f14 := ⟨Tryd.f110.name, by decide, Tryd.func110.trans (congrArg some (by kernel_rfl))⟩
  f15 := Tryd.func102.trans (congrArg some (by kernel_rfl))
  f20 := ⟨Tryd.f124.name, by decide, Tryd.func124.trans (congrArg some (by kernel_rfl))⟩
  f21 := ⟨Tryd.f125.name, by decide, Tryd.func125.trans (congrArg some (by kernel_rfl))⟩
  f22 := ⟨Tryd.f126.name, by decide, Tryd.func126.trans (congrArg some (by kernel_rfl))⟩
  f23 := ⟨Tryd.f127.name, by decide, Tryd.func127.trans (congrArg some (by kernel_rfl))⟩
  f24 := ⟨Tryd.f128.name, by decide, Tryd.func128.trans (congrArg some (by kernel_rfl))⟩
  f25 := ⟨Tryd.f129.name, by decide, Tryd.func129.trans (congrArg some (by kernel_rfl))⟩
  f26 := ⟨Tryd.f130.name, by decide, Tryd.func130.trans (congrArg some (by kernel_rfl))⟩
  f27 := ⟨Tryd.f131.name, by decide, Tryd.func131.trans (congrArg some (by kernel_rfl))⟩
  f28 := Tryd.func119.trans (congrArg some (by kernel_rfl))
  f29 := Tryd.func120.trans (congrArg some (by kernel_rfl))
  f46 := ⟨Tryd.f143.name, by decide, Tryd.func143.trans (congrArg some (by kernel_rfl))⟩
  f47 := Tryd.func133.trans (congrArg some (by kernel_rfl))
  f48 := Tryd.func134.trans (congrArg some (by kernel_rfl))
  f49 := ⟨Tryd.f144.name, by decide, Tryd.func144.trans (congrArg some (by kernel_rfl))⟩
  f50 := ⟨Tryd.f145.name, by decide, Tryd.func145.trans (congrArg some (by kernel_rfl))⟩
  f57 := ⟨Tryd.f152.name, by decide, Tryd.func152.trans (congrArg some (by kernel_rfl))⟩
  t0 := Tryd.underlying0
  a0 := Tryd.isAgg0
  z0 := Tryd.sizeOf0
  v0 := Tryd.zeroValue0
  t3 := Tryd.underlying3
  a3 := Tryd.isAgg3
  z3 := Tryd.sizeOf3
  v3 := Tryd.zeroValue3
  t4 := Tryd.underlying4
  a4 := Tryd.isAgg4
  z4 := Tryd.sizeOf4
  v4 := Tryd.zeroValue4
  t5 := Tryd.underlying5
  a5 := Tryd.isAgg5
  z5 := Tryd.sizeOf5
  v5 := Tryd.zeroValue5
  t9 := Tryd.underlying9
  a9 := Tryd.isAgg9
  z9 := Tryd.sizeOf9
  v9 := Tryd.zeroValue9
  t22 := Tryd.underlying63
  a22 := Tryd.isAgg63
  z22 := Tryd.sizeOf63
  v22 := Tryd.zeroValue63
  t25 := Tryd.underlying168
  a25 := Tryd.isAgg168
  z25 := Tryd.sizeOf168
  v25 := Tryd.zeroValue168
  t39 := Tryd.underlying173
  a39 := Tryd.isAgg173
  z39 := Tryd.sizeOf173
  v39 := Tryd.zeroValue173
  t45 := Tryd.underlying186
  a45 := Tryd.isAgg186
  z45 := Tryd.sizeOf186
  v45 := Tryd.zeroValue186
  t46 := Tryd.underlying187
  a46 := Tryd.isAgg187
  z46 := Tryd.sizeOf187
  v46 := Tryd.zeroValue187
  t50 := Tryd.underlying132
  a50 := Tryd.isAgg132
  z50 := Tryd.sizeOf132
  v50 := Tryd.zeroValue132
  t53 := Tryd.underlying176
  a53 := Tryd.isAgg176
  z53 := Tryd.sizeOf176
  v53 := Tryd.zeroValue176
  t55 := Tryd.underlying194
  a55 := Tryd.isAgg194
  z55 := Tryd.sizeOf194
  v55 := Tryd.zeroValue194
  t66 := Tryd.underlying203
  a66 := Tryd.isAgg203
  z66 := Tryd.sizeOf203
  v66 := Tryd.zeroValue203
  t70 := Tryd.underlying207
  a70 := Tryd.isAgg207
  z70 := Tryd.sizeOf207
  v70 := Tryd.zeroValue207
  t76 := Tryd.underlying217
  a76 := Tryd.isAgg217
  z76 := Tryd.sizeOf217
  v76 := Tryd.zeroValue217
  t77 := Tryd.underlying156
  a77 := Tryd.isAgg156
  z77 := Tryd.sizeOf156
  v77 := Tryd.zeroValue156 }
def Tryd.keysB_ren : Go.Shelf.Ren := ⟨fun | 7 => 70 | 10 => 98 | n => n, fun | 23 => 120 | 26 => 3 | 3 => 4 | 28 => 128 | 0 => 0 | 27 => 127 | 33 => 105 | 4 => 4 | n => n, fun | n => n⟩
theorem Tryd.keysB : Go.Proofs.SlLaysZI.n7 Tryd.prog Tryd.keysB_ren := {
  mixed := by kernel_rfl
  f7 := ⟨Tryd.f70.name, by decide, Tryd.func70.trans (congrArg some (by kernel_rfl))⟩
  f10 := ⟨Tryd.f98.name, by decide, Tryd.func98.trans (congrArg some (by kernel_rfl))⟩
  t0 := Tryd.underlying0
  a0 := Tryd.isAgg0
  z0 := Tryd.sizeOf0
  v0 := Tryd.zeroValue0
  t4 := Tryd.underlying4
  a4 := Tryd.isAgg4
  z4 := Tryd.sizeOf4
  v4 := Tryd.zeroValue4
  t23 := Tryd.underlying120
  a23 := Tryd.isAgg120
  z23 := Tryd.sizeOf120
  v23 := Tryd.zeroValue120
  t26 := Tryd.underlying3
  a26 := Tryd.isAgg3
  z26 := Tryd.sizeOf3
  v26 := Tryd.zeroValue3
  t27 := Tryd.underlying127
  a27 := Tryd.isAgg127
  z27 := Tryd.sizeOf127
  v27 := Tryd.zeroValue127
  t28 := Tryd.underlying128
  a28 := Tryd.isAgg128
  z28 := Tryd.sizeOf128
  v28 := Tryd.zeroValue128
  t33 := Tryd.underlying105
  a33 := Tryd.isAgg105
  z33 := Tryd.sizeOf105
  v33 := Tryd.zeroValue105 }
def Tryd.keysS_ren : Go.Shelf.Ren := ⟨fun | 7 => 74 | 10 => 100 | n => n, fun | 23 => 110 | 26 => 3 | 3 => 116 | 28 => 128 | 0 => 0 | 27 => 127 | 33 => 105 | 4 => 4 | n => n, fun | n => n⟩
theorem Tryd.keysS : Go.Proofs.SlLaysZI.n7 Tryd.prog Tryd.keysS_ren := {
  mixed := by kernel_rfl
  f7 := ⟨Tryd.f74.name, by decide, Tryd.func74.trans (congrArg some (by kernel_rfl))⟩
  f10 := ⟨Tryd.f100.name, by decide, Tryd.func100.trans (congrArg some (by kernel_rfl))⟩
  t0 := Tryd.underlying0
  a0 := Tryd.isAgg0
  z0 := Tryd.sizeOf0
  v0 := Tryd.zeroValue0
  t4 := Tryd.underlying4
  a4 := Tryd.isAgg4
  z4 := Tryd.sizeOf4
  v4 := Tryd.zeroValue4
  t23 := Tryd.underlying110
  a23 := Tryd.isAgg110
  z23 := Tryd.sizeOf110
  v23 := Tryd.zeroValue110
  t26 := Tryd.underlying3
  a26 := Tryd.isAgg3
  z26 := Tryd.sizeOf3
  v26 := Tryd.zeroValue3
  t27 := Tryd.underlying127
  a27 := Tryd.isAgg127
  z27 := Tryd.sizeOf127
  v27 := Tryd.zeroValue127
  t28 := Tryd.underlying128
  a28 := Tryd.isAgg128
  z28 := Tryd.sizeOf128
  v28 := Tryd.zeroValue128
  t33 := Tryd.underlying105
  a33 := Tryd.isAgg105
  z33 := Tryd.sizeOf105
  v33 := Tryd.zeroValue105 }
def Tryd.collect_ren : Go.Shelf.Ren := ⟨fun | 8 => 69 | 11 => 97 | n => n, fun | 26 => 3 | 28 => 128 | 24 => 87 | 0 => 0 | 33 => 105 | 4 => 4 | n => n, fun | n => n⟩
theorem Tryd.collect : Go.Proofs.SlLaysZI.n8 Tryd.prog Tryd.collect_ren := {
  mixed := by kernel_rfl
  f8 := ⟨Tryd.f69.name, by decide, Tryd.func69.trans (congrArg some (by kernel_rfl))⟩
  f11 := ⟨Tryd.f97.name, by decide, Tryd.func97.trans (congrArg some (by kernel_rfl))⟩
  t0 := Tryd.underlying0
  a0 := Tryd.isAgg0
  z0 := Tryd.sizeOf0
  v0 := Tryd.zeroValue0
  t24 := Tryd.underlying87
  a24 := Tryd.isAgg87
  z24 := Tryd.sizeOf87
  v24 := Tryd.zeroValue87
  t26 := Tryd.underlying3
  a26 := Tryd.isAgg3
  z26 := Tryd.sizeOf3
  v26 := Tryd.zeroValue3
  t28 := Tryd.underlying128
  a28 := Tryd.isAgg128
  z28 := Tryd.sizeOf128
  v28 := Tryd.zeroValue128
  i26 := by kernel_rfl }
end Go.Proofs
