/-
  Written by a program (wip/walks).
-/
import Derived.Test.YtdcnblafepgheaaDoorE25
namespace Go.Proofs.YtdcnblafepgheaaDoor
open Go Go.V
set_option maxRecDepth 100000
section
variable {G : Gp} {g : BibG} {c : Int} {st : BibS} {w : World}
theorem out_w (m : GM G g) (h : BibIs g st w) (p : Int) (t : T4) (hp : -9223372036854775808 ≤ p ∧ p ≤ 9223372036854775807) (ht : -9223372036854775808 ≤ t.port ∧ t.port ≤ 9223372036854775807) :
    Rets Tryd.prog 41 #[.pointer (some ⟨g.tb, 0, none⟩), .int .i64 p, t4 t] w fun v w' => v = .tuple #[bv ((outA (ab st).l p t).getD zeroB), .bool (outA (ab st).l p t).isSome] ∧ K0 w w' :=
  (outb_spec m.ok h p t hp ht).mono fun v w' hr => ⟨by
    have hin : outA (ab st).l p t = (lookOut st.l p t).map (·.1) := (out_fun st.l p t).symm
    rw [hin]
    rcases hr.1 with ⟨h1, h2⟩ | ⟨q, h1, _, h2⟩ <;> rw [h1] <;> exact h2, hr.2⟩
theorem len_w (h : BibIs g st w) : Rets Tryd.prog 18 #[.pointer (some ⟨g.tb, 0, none⟩)] w fun v w' => v = .int .i64 ((ab st).l.length : Nat) ∧ K0 w w' :=
  (lenb_spec h).mono fun v w' hr => ⟨by rw [hr.1]; simp [ab], hr.2⟩
theorem NewBib.gm {l : List V4} {low high max : Int} {w w' : World} {g : BibG} (h : NewBib l low high max w w' g) : GM ⟨l, low, high, max, g.first⟩ g :=
  ⟨h.ok, h.max, rfl, h.pl, List.mem_of_getElem? h.first⟩
def ab0 : Ab := ⟨0, [], fun _ => []⟩
theorem wf0 {G : Gp} (hm : 0 ≤ G.max) : Wf G 0 ab0 := by
  refine ⟨by decide, fun b hb => (by cases hb), List.Pairwise.nil, fun b hb => (by cases hb), fun b hb => (by cases hb), fun b hb => (by cases hb), fun b hb => (by cases hb), fun b hb => (by cases hb), fun b hb => (by cases hb), fun k _ t s e => (by cases e), fun k _ => List.nodup_nil, fun k _ => rfl, fun b hb => (by cases hb), hm⟩
end
end Go.Proofs.YtdcnblafepgheaaDoor
