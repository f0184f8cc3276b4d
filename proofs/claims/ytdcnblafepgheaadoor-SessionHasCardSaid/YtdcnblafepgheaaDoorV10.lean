/-
  The library's sort over a row of the program's own: what it leaves, told as a row again. Of whatever program.
-/
import Derived.Test.YtdcnblafepgheaaDoorV5
import Derived.Shelf.SlSortCmp.WholeK
namespace Go.V
open Go Go.Sort Go.Proofs

section
variable {X : Type} [Inhabited X] {P : Program} {f : X → List Value} {sz g cap : Nat} {T : TypeId} {w : World} {xs : List X}
theorem flat_get (hf : ∀ y, (f y).length = sz) (l : List X) {t : Nat} (h : t < l.length * sz) : (l.flatMap f)[t]? = some (f l.toArray[t / sz]!)[t % sz]! := by
  have h0 : 0 < sz := by rcases Nat.eq_zero_or_pos sz with e | e; · subst e; simp at h
                         · exact e
  have hi : t / sz < l.length := Nat.div_lt_of_lt_mul (by rwa [Nat.mul_comm] at h)
  have hm := Nat.mod_lt t h0
  have e1 : (l.flatMap f)[t]? = ((l.flatMap f).drop (t / sz * sz))[t % sz]? := by
    rw [List.getElem?_drop]; congr 1; rw [Nat.mul_comm]; exact (Nat.div_add_mod t sz).symm
  rw [e1, flat_drop hf, List.drop_eq_getElem_cons hi, List.flatMap_cons, List.getElem?_append_left (by rw [hf]; exact hm)]
  have e2 : l.toArray[t / sz]! = l[t / sz] := by simp [hi]
  rw [e2, List.getElem?_eq_getElem (by rw [hf]; exact hm), getElem!_pos _ _ (by rw [hf]; exact hm)]
theorem flatK_list (hf : ∀ y, (f y).length = sz) (d : Array X) : (flatK f sz d).toList = d.toList.flatMap f := by
  apply List.ext_getElem?
  intro t
  by_cases h : t < d.size * sz
  · rw [flat_get hf d.toList (by simpa using h)]
    have := get_flatK f sz d t h
    have hs : t < (flatK f sz d).size := by rw [size_flatK]; exact h
    rw [getElem!_pos _ t hs] at this
    rw [Array.getElem?_toList, Array.getElem?_eq_getElem hs, this]
  · rw [List.getElem?_eq_none (by simp; omega), List.getElem?_eq_none (by rw [flat_len hf]; simp; omega)]
theorem OwnC.holdsK (h : OwnC f sz w g T cap xs) : HoldsK f sz w g 0 xs.toArray := by
  obtain ⟨cur, hb, hcs, hle, hcm, ht, hf⟩ := h
  intro j hj
  have hj' : j < xs.length * sz := by simpa using hj
  have h1 : cur[j]? = some (flatK f sz xs.toArray)[j]! := by
    have e : (cur.take (xs.length * sz))[j]? = some (flatK f sz xs.toArray)[j]! := by
      rw [ht, flat_get hf xs hj', get_flatK f sz xs.toArray j (by simpa using hj')]
    rw [List.getElem?_take, if_pos hj'] at e
    exact e
  refine ⟨?_, frozen_of hb _⟩
  rw [cell_of hb, Nat.zero_add]
  simpa using h1
theorem OwnC.sorted (h : OwnC f sz w g T cap xs) {d' : Array X} {n : Nat} {os : Array Obj} (hd : d'.size = xs.length) : OwnC f sz (sortWorldK f sz w g 0 n d' os) g T cap d'.toList ∧ Kp (· = g) w (sortWorldK f sz w g 0 n d' os) := by
  obtain ⟨cur, hb, hcs, hle, hcm, ht, hf⟩ := h
  have hg := lt_of_get hb
  have hle2 : xs.length * sz ≤ cap * sz := Nat.mul_le_mul_right _ hle
  have hw : ∀ i, i < w.heap.size → (sortWorldK f sz w g 0 n d' os).heap[i]? = (putRowK f sz (Sort.ahead w n) g 0 d').heap[i]? := fun i hi => by
    unfold sortWorldK grow
    have : (putRowK f sz (Sort.ahead w n) g 0 d').heap.size = w.heap.size := by unfold putRowK putRow mapBlock; simp [Sort.ahead]
    simp only
    rw [Array.getElem?_append_left (by omega)]
  have hgb : (sortWorldK f sz w g 0 n d' os).heap[g]? = some (.cells (putCells id 0 (flatK f sz d') cur.toArray) T (0, 0)) := by
    rw [hw g hg]
    unfold putRowK putRow mapBlock
    simp only [Sort.ahead, Array.getElem?_modify, hb]
    simp
    rfl
  have hkp : Kp (· = g) w (sortWorldK f sz w g 0 n d' os) := by
    refine ⟨rfl, rfl, rfl, ?_, fun k hk hkg => ?_⟩
    · unfold sortWorldK grow putRowK putRow mapBlock; simp [Sort.ahead]
    · rw [hw k hk]
      unfold putRowK putRow mapBlock
      simp only [Sort.ahead, Array.getElem?_modify]
      rw [if_neg (fun e => hkg e.symm)]
  refine ⟨⟨(putCells id 0 (flatK f sz d') cur.toArray).toList, by simpa [Blk] using hgb, by simpa [putCells] using hcs, by simp; omega, hcm, ?_, hf⟩, hkp⟩
  rw [← flatK_list hf d']
  apply List.ext_getElem?
  intro t
  have hfs : (flatK f sz d').size = xs.length * sz := by rw [size_flatK, hd]
  rw [List.getElem?_take]
  have hl : d'.toList.length * sz = xs.length * sz := by simp [hd]
  have hl2 : d'.size * sz = xs.length * sz := by rw [hd]
  by_cases ht2 : t < xs.length * sz
  · rw [if_pos (by omega)]
    simp only [putCells, Array.getElem?_toList, Array.getElem?_mapIdx]
    have hc : t < cur.toArray.size := by simp; omega
    rw [Array.getElem?_eq_getElem hc]
    simp only [Option.map_some]
    rw [if_pos ⟨by omega, by omega⟩, Nat.sub_zero, Array.getElem?_eq_getElem (by omega), getElem!_pos _ t (by omega)]; rfl
  · rw [if_neg (by omega), List.getElem?_eq_none (by simp; omega)]
/-- what the library's sort says of its permutation, of lists -/
theorem perm_list {d d' : Array X} (h : PermIn 0 d.size d d') : d'.toList.Perm d.toList ∧ d'.size = d.size := by
  obtain ⟨h1, h2, h3⟩ := h
  refine ⟨?_, h1⟩
  have e1 : (d.extract 0 d.size) = d := by simp
  have e2 : (d'.extract 0 d.size) = d' := by rw [← h1]; simp
  rwa [e1, e2] at h3
end
end Go.V
