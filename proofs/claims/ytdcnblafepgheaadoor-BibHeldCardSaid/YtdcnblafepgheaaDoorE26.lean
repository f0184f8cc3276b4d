/-
  Written by a program (wip/walks).
-/
import Derived.Test.YtdcnblafepgheaaDoorE25
namespace Go.Proofs.YtdcnblafepgheaaDoor
open Go Go.V
set_option maxRecDepth 100000
section
variable {G : Gp} {g : BibG} {c : Int} {st : BibS} {w : World}
theorem out_w (m : GM G g) (h : BibIs g st w) (p : Int) (t : T4) (hp : -9223372036854775808 ≤ p ∧ p ≤ 9223372036854775807) (ht : -9223372036854775808 ≤ t.port ∧ t.port ≤ 9223372036854775807) :
    Rets Tryd.prog 41 #[.pointer (some ⟨g.tb, 0, none⟩), .int .i64 p, t4 t] w fun v w' => v = .tuple #[bv ((outA (ab st).l p t).getD zeroB), .bool (outA (ab st).l p t).isSome] ∧ K0 w w' :=
  (outb_spec m.ok h p t hp ht).mono fun v w' hr => ⟨by
    have hin : outA (ab st).l p t = (lookOut st.l p t).map (·.1) := (out_fun st.l p t).symm
    rw [hin]
    rcases hr.1 with ⟨h1, h2⟩ | ⟨q, h1, _, h2⟩ <;> rw [h1] <;> exact h2, hr.2⟩
theorem id_w (h : BibIs g st w) (n : Int) (hn : -9223372036854775808 ≤ n ∧ n ≤ 9223372036854775807) :
    Rets Tryd.prog 24 #[.pointer (some ⟨g.tb, 0, none⟩), .int .i64 n] w fun v w' => v = .tuple #[bv ((idA (ab st).l n).getD zeroB), .bool (idA (ab st).l n).isSome] ∧ K0 w w' := by
  have hid : idA (ab st).l n = (lookId st.l n).map (·.1) := (id_fun st.l n).symm
  rw [hid]
  cases hl : lookId st.l n with
  | none => exact idb_none h n hn hl
  | some q =>
    have hq := look_mem hl
    have hqn := lookId_id hl
    subst hqn
    exact idb_some h q hq
theorem len_w (h : BibIs g st w) : Rets Tryd.prog 18 #[.pointer (some ⟨g.tb, 0, none⟩)] w fun v w' => v = .int .i64 ((ab st).l.length : Nat) ∧ K0 w w' :=
  (lenb_spec h).mono fun v w' hr => ⟨by rw [hr.1]; simp [ab], hr.2⟩
theorem free_w (m : GM G g) (h : BibIs g st w) (wf : Wf G c (ab st)) (hm : G.max ≤ 65536) (p : Int) : Rets Tryd.prog 21 #[.pointer (some ⟨g.tb, 0, none⟩), .int .i64 p] w fun v w' => v = .int .i64 (freeA G (ab st) p) ∧ K0 w w' := by
  unfold freeA
  by_cases hk : kindI p < 0
  · rw [if_pos hk]; exact freeb_no h p hk
  · rw [if_neg hk]
    have hb : ∀ k, k < 3 → (st.h k).length ≤ 1000000 := fun k hk => by
      have h1 : (st.h k).length = _ := wf.hlen k hk
      have h2 := List.countP_le_length (p := fun b => decide (kN b.proto = k)) (l := (ab st).l)
      have h3 := wf.len
      omega
    have hf : ∀ k, k < 3 → kN p = k → pFree (g.p k) (st.h k) = (G.L.length : Int) * (G.high - G.low + 1) - (((ab st).h (kN p)).countP (inR G.low G.high) : Int) := fun k hk e => by
      obtain ⟨e1, e2, e3⟩ := m.pl k hk
      unfold pFree; rw [e1, e2, e3, e]; rfl
    rcases kind_three (by omega : 0 ≤ kindI p) with rfl | rfl | rfl
    · rw [← hf 0 (by decide) rfl]; exact freeb_0 m.ok h (hb 0 (by decide))
    · rw [← hf 1 (by decide) rfl]; exact freeb_1 m.ok h (hb 1 (by decide))
    · rw [← hf 2 (by decide) rfl]; exact freeb_2 m.ok h (hb 2 (by decide))
theorem NewBib.gm {l : List V4} {low high max : Int} {w w' : World} {g : BibG} (h : NewBib l low high max w w' g) : GM ⟨l, low, high, max, g.first⟩ g :=
  ⟨h.ok, h.max, rfl, h.pl, List.mem_of_getElem? h.first⟩
def ab0 : Ab := ⟨0, [], fun _ => []⟩
theorem wf0 {G : Gp} (hm : 0 ≤ G.max) : Wf G 0 ab0 := by
  refine ⟨by decide, fun b hb => (by cases hb), List.Pairwise.nil, fun b hb => (by cases hb), fun b hb => (by cases hb), fun b hb => (by cases hb), fun b hb => (by cases hb), fun b hb => (by cases hb), fun b hb => (by cases hb), fun k _ t s e => (by cases e), fun k _ => List.nodup_nil, fun k _ => rfl, fun b hb => (by cases hb), hm⟩
end
end Go.Proofs.YtdcnblafepgheaaDoor
