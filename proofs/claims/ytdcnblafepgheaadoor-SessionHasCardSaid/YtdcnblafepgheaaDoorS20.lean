/-
  Written by a program (wip/walks).
-/
import Derived.Test.YtdcnblafepgheaaDoorS19
namespace Go.Proofs.YtdcnblafepgheaaDoor
open Go Go.V
set_option maxRecDepth 100000
theorem sessionHas_all (max : Int) (hm : -9223372036854775808 ≤ max ∧ max ≤ 9223372036854775807) {p : Option Addr} {n c : Nat} {acts : List Act} {w : World} (hn : n = acts.length) (hg : ∀ x ∈ acts, x.good) (he : n = 0 ∨ ∃ b o, p = some ⟨b, o, none⟩ ∧ Elts Act.cs 7 w b o acts) (hT : Tb w) : Rets Tryd.prog 8 #[.int .i64 max, .slice p n c] w fun v w' => v = .bool true ∧ K0 w w' := by
  rcases he with rfl | ⟨b, o, rfl, he⟩
  · exact sessionHas_nil max hm hT
  · exact sessionHas_spec max hm hn hg he hT
end Go.Proofs.YtdcnblafepgheaaDoor
