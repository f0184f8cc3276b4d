/-
  A row that a law is given, opened into its elements; a struct of ints, a row of bytes. Of whatever program.
-/
import Derived.Test.YtdcnblafepgheaaDoorV9
import Derived.Deep.Slices
namespace Go.V
open Go Go.ChangeShapes Go.WideShapes Go.RowKit Go.Deep

section
variable {H : Type} {enc : TypeId × Value → H} {P : Program} {w : World} {base : Nat} {sp : Nat → Bool} {held : Bool}
theorem cell_at {b o : Nat} {v : Value} (h : w.cell? ⟨b, o, none⟩ = some v) : ∃ cs T fz, w.heap[b]? = some (.cells cs T fz) ∧ cs[o]? = some v := by
  unfold World.cell? at h
  split at h
  · rename_i c T fz e; exact ⟨c, T, fz, e, by simpa using h⟩
  · cases h
theorem cells_at {b o n : Nat} {cs : List Value} (hn : 0 < n) (h : w.cells? base ⟨b, o, none⟩ n = some cs) : ∃ ds T fz, w.heap[b]? = some (.cells ds T fz) ∧ (ds.toList.drop o).take n = cs := by
  obtain ⟨_, hl, hx⟩ := World.cells?_some h
  have hadd : ∀ i, (⟨b, o, none⟩ : Addr).add i = ⟨b, o + i, none⟩ := fun i => by unfold Addr.add; by_cases e : i = 0 <;> simp [e]
  have h0 := hx 0 hn
  rw [hadd, List.getElem?_eq_getElem (by omega)] at h0
  obtain ⟨ds, T, fz, h1, _⟩ := cell_at h0
  refine ⟨ds, T, fz, h1, List.ext_getElem? fun i => ?_⟩
  by_cases hi : i < n
  · have h2 := hx i hi
    rw [hadd, List.getElem?_eq_getElem (by omega)] at h2
    obtain ⟨ds', T', fz', h3, h4⟩ := cell_at h2
    rw [h1] at h3
    simp only [Option.some.injEq, Obj.cells.injEq] at h3
    obtain ⟨rfl, _, _⟩ := h3
    rw [List.getElem?_take_of_lt hi, List.getElem?_drop, List.getElem?_eq_getElem (show i < cs.length by omega)]
    simpa using h4
  · rw [List.getElem?_eq_none (by simp; omega), List.getElem?_eq_none (by omega)]
theorem open_elts {X : Type} [Inhabited X] {f : X → List Value} {sz : Nat} {good : X → Prop} {t e : TypeId} {v : Value} {d : DataW H} {ps : List MemPlace} (ht : P.underlying t = some (.slice e)) (hc : P.cellsOf e = sz) (hpos : 0 < sz) (hf1 : ∀ x, (f x).length = sz)
    (hf : ∀ n cs y, DataW.trod enc P w base sp held n e cs = some y → ∃ x, cs = f x ∧ good x) (hv : v.cells.toList = [v]) (h : DataW.Trod enc P w base sp held t v d ps) :
    ∃ p n c xs, v = .slice p n c ∧ n = List.length xs ∧ n ≤ maxLen ∧ (∀ x ∈ xs, good x) ∧ (n = 0 ∨ ∃ b o, p = some ⟨b, o, none⟩ ∧ Elts f sz w b o xs) := by
  obtain ⟨fuel, h⟩ := h
  rw [hv] at h
  rcases open_slice ht h with ⟨h1, _⟩ | ⟨a, len, cap, m, n, D, Pl, h1, hb, hl, hm, hmm, hx, hall⟩
  · simp only [List.cons.injEq, and_true] at h1
    exact ⟨none, 0, 0, [], h1, rfl, Nat.zero_le _, fun _ h => (by cases h), .inl rfl⟩
  · simp only [List.cons.injEq, and_true] at h1
    subst hc
    have hlm : len ≤ m := by rw [hmm]; split <;> omega
    obtain ⟨F, hF⟩ := choose_lt (α := X) (n := len) (p := fun i x => w.cells? base (a.add (i * P.cellsOf e)) (P.cellsOf e) = some (f x) ∧ good x) fun i hi => by
      obtain ⟨cs', h2, h3⟩ := hall i (by omega)
      obtain ⟨x, rfl, hg⟩ := hf _ _ _ h3
      exact ⟨x, h2, hg⟩
    refine ⟨some a, len, cap, (List.range len).map F, h1, by simp, by omega, fun x hx => ?_, ?_⟩
    · obtain ⟨i, hi, rfl⟩ := List.mem_map.1 hx
      exact (hF i (List.mem_range.1 hi)).2
    · by_cases hz : len = 0
      · exact .inl hz
      · right
        obtain ⟨b, o, spot⟩ := a
        have h0 := (hF 0 (by omega)).1
        obtain ⟨_, hl0, hx0⟩ := World.cells?_some h0
        have hs := hx0 0 hpos
        rw [List.getElem?_eq_getElem (by omega)] at hs
        have hspot : spot = none := by simpa [Addr.add] using World.cell?_spot hs
        subst hspot
        have hadd : ∀ i, (⟨b, o, none⟩ : Addr).add i = ⟨b, o + i, none⟩ := fun i => by unfold Addr.add; by_cases e : i = 0 <;> simp [e]
        rw [hadd] at h0
        obtain ⟨ds, T, fz, h4, _⟩ := cells_at hpos h0
        refine ⟨b, o, rfl, ds, T, fz, h4, fun i x hx => ⟨hf1 x, ?_⟩⟩
        rw [List.getElem?_map] at hx
        obtain ⟨j, hj, rfl⟩ := Option.map_eq_some_iff.1 hx
        have hji : j = i ∧ i < len := by
          have := List.getElem?_eq_some_iff.1 hj; obtain ⟨h5, h6⟩ := this; simp at h5 h6; exact ⟨h6.symm, h5⟩
        obtain ⟨rfl, hi⟩ := hji
        have h5 := (hF j hi).1
        rw [hadd] at h5
        obtain ⟨ds', T', fz', h6, h7⟩ := cells_at hpos h5
        rw [h4] at h6
        simp only [Option.some.injEq, Obj.cells.injEq] at h6
        obtain ⟨rfl, _, _⟩ := h6
        exact h7
theorem u8_of {m : Int} (h0 : 0 ≤ m) (h1 : m ≤ 255) : (.int .u8 m : Value) = u8 (UInt8.ofNat m.toNat) := by
  have : (UInt8.ofNat m.toNat).toNat = m.toNat := by rw [UInt8.toNat_ofNat']; exact Nat.mod_eq_of_lt (by omega)
  unfold u8; rw [this]; congr 1; exact (Int.toNat_of_nonneg h0).symm
end
end Go.V
