/-
  Written by a program (wip/walks).
-/
import Derived.Test.YtdcnblafepgheaaDoorS16
import Derived.Test.YtdcnblafepgheaaDoorV12
namespace Go.Proofs.YtdcnblafepgheaaDoor
open Go Go.V
set_option maxRecDepth 100000
structure Act where
  (do_ : Int) (a : UInt8) (b port n s d : Int)
instance : Inhabited Act := ⟨⟨0, 0, 0, 0, 0, 0, 0⟩⟩
abbrev Act.cs (x : Act) : List Value := [.int .u8 x.do_, u8 x.a, .int .i64 x.b, .int .i64 x.port, .int .i64 x.n, .int .i64 x.s, .int .i64 x.d]
def Act.good (x : Act) : Prop := (0 ≤ x.do_ ∧ x.do_ ≤ 255) ∧ (-9223372036854775808 ≤ x.b ∧ x.b ≤ 9223372036854775807) ∧ (-9223372036854775808 ≤ x.port ∧ x.port ≤ 9223372036854775807) ∧ (-9223372036854775808 ≤ x.n ∧ x.n ≤ 9223372036854775807) ∧ (-9223372036854775808 ≤ x.s ∧ x.s ≤ 9223372036854775807) ∧ (-9223372036854775808 ≤ x.d ∧ x.d ≤ 9223372036854775807)
theorem STab.smallL {m : Int} {g : SesG} {c : Int} {B : Nat} {a : Sx} {st : SesS} {w : World} (h : STab m g c B a st w) : a.L.length ≤ 1000000 := by
  have h1 := h.wf.len; have h2 := h.ok.mx; have h3 := h.gm; omega
end Go.Proofs.YtdcnblafepgheaaDoor
