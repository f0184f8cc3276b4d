/-
  Written by a program (wip/walks).
-/
import Derived.Test.YtdcnblafepgheaaDoorE24
namespace Go.Proofs.YtdcnblafepgheaaDoor
open Go Go.V
set_option maxRecDepth 100000
section
variable {G : Gp} {g : BibG} {c : Int} {st : BibS} {w : World}
end
end Go.Proofs.YtdcnblafepgheaaDoor
