/-
  Written by a program (wip/walks).
-/
import Derived.Test.YtdcnblafepgheaaDoorE1
namespace Go.Proofs.YtdcnblafepgheaaDoor
open Go Go.V
set_option maxRecDepth 100000
def ord (l : List V4) (a : V4) : List V4 := if a ∈ l then a :: l.erase a else l
end Go.Proofs.YtdcnblafepgheaaDoor
