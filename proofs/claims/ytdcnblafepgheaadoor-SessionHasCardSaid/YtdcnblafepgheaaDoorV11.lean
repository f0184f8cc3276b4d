/-
  A map keyed by ints, told as the library's iterators ask it. Of whatever program.
-/
import Derived.Test.YtdcnblafepgheaaDoorV5
import Derived.Shelf.SlIterI.Collect
import Derived.Shelf.SlIterI.Nil
namespace Go.V
open Go Go.RowKit Go.Proofs

section
variable {V : Type} {P : Program} {kt : TypeId} {vv : V → Value} {w : World} {b : Nat} {l : List (Int × V)}
theorem insert_perm {H : Type} (x : Lit × DataW H) : ∀ r : List (Lit × DataW H), (DataW.insert x r).Perm (x :: r)
  | [] => List.Perm.refl _
  | y :: r => by
    unfold DataW.insert
    split
    · exact List.Perm.refl _
    · exact ((insert_perm x r).cons y).trans (List.Perm.swap x y r)
theorem foldr_perm {H : Type} : ∀ r : List (Lit × DataW H), (r.foldr DataW.insert []).Perm r
  | [] => List.Perm.refl _
  | x :: r => (insert_perm x _).trans ((foldr_perm r).cons x)
def noR (_ : Value) : Option (DataW Unit × List MemPlace) := some (.nil, [])
theorem MapAt.owns (hk : P.underlying kt = some (.int .i64)) (h : MapAt (fun n : Int => .int .i64 n) vv inI w b l) (hl : l.length ≤ maxLen) :
    ∃ D : DataW Unit, w.ownsMap P kt noR b l.length D ∧ (intKeys D).Perm (l.map (·.1)) ∧ Maps.size D = l.length := by
  obtain ⟨es, clock, hb, he⟩ := h
  have hlen := he.len
  have key : ∀ e ∈ es.toList, ∃ n : Int, e.key = .int .i64 n ∧ WideElems.rd P kt noR e = some (.int .i64 n, .nil) := fun e hm => by
    obtain ⟨n, hn, hkey⟩ := he.mem hm
    refine ⟨n, hkey, ?_⟩
    unfold WideElems.rd
    rw [hkey, Maps.keyOf_int_mk hk (wf_i64 hn)]
    rfl
  have hrg : es.toList.map (WideElems.rg P kt noR) = l.map fun p => ((.int .i64 p.1, .nil) : Lit × DataW Unit) := by
    apply List.ext_getElem?
    intro i
    rw [List.getElem?_map, List.getElem?_map]
    cases hi : es.toList[i]? with
    | none =>
      have : l[i]? = none := by
        rw [List.getElem?_eq_none_iff] at hi ⊢
        simp at hi; omega
      rw [this]; rfl
    | some e =>
      obtain ⟨p, hp, h1, _⟩ := he.get hi
      obtain ⟨n, h2, h3⟩ := key e (List.mem_of_getElem? hi)
      rw [hp]
      simp only [Option.map_some]
      unfold WideElems.rg
      rw [h3]
      rw [h1] at h2
      injection h2 with _ h2
      rw [h2]; rfl
  refine ⟨.map ((es.toList.map (WideElems.rg P kt noR)).foldr DataW.insert []), ⟨es, clock, hb, ⟨by omega, he.st, fun x hx => ?_⟩, by omega, rfl⟩, ?_, ?_⟩
  · obtain ⟨n, _, h3⟩ := key x hx; exact ⟨_, h3⟩
  · rw [hrg]
    have := ((foldr_perm (l.map fun p => ((.int .i64 p.1, .nil) : Lit × DataW Unit))).map fun p => intOf p.1)
    refine this.trans (List.Perm.of_eq ?_)
    rw [List.map_map]; rfl
  · rw [hrg]
    exact (foldr_perm _).length_eq.trans (List.length_map _)
end
theorem below_k0 {w w' : World} (h : Below w.heap.size w w') : K0 w w' := ⟨h.os, h.tape, h.output, h.size, fun k hk _ => h.block k hk⟩
theorem ints_of_row {w : World} {B : Nat} {e : TypeId} {v : Value} {ks : List Int} (h : w.ownsRow B e 1 v ks.length (ks.map encZ)) (hn : v = .slice none 0 0 ↔ ks = []) :
    (ks = [] ∧ v = .slice none 0 0) ∨ ∃ rb cap, v = .slice (some ⟨rb, 0, none⟩) ks.length cap ∧ Elts (fun n : Int => [.int .i64 n]) 1 w rb 0 ks ∧ B ≤ rb := by
  by_cases hk : ks = []
  · exact .inl ⟨hk, hn.2 hk⟩
  · have hf : ks.map encZ = ks.flatMap (fun n : Int => [.int .i64 n]) := by
      induction ks with
      | nil => rfl
      | cons a l ih => simp only [List.map_cons, List.flatMap_cons]; rw [List.map_eq_flatMap]; rfl
    rcases h.2 with ⟨e1, _⟩ | ⟨g, cap, cur, hv, hB, hg, h1, h2, hcs, ht⟩
    · exact absurd (hn.1 e1) hk
    · refine .inr ⟨g, cap, hv, ?_, hB⟩
      have : OwnC (fun n : Int => [.int .i64 n]) 1 w g e cap ks := ⟨cur.toList, by simpa [Blk] using hg, by simpa using hcs, h1, h2, by rw [← hf]; exact ht, fun _ => rfl⟩
      exact this.elts
end Go.V
