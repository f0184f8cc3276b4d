/-
  Written by a program (wip/walks).
-/
import Derived.Test.YtdcnblafepgheaaDoorE19
namespace Go.Proofs.YtdcnblafepgheaaDoor
open Go Go.V
set_option maxRecDepth 100000
theorem mem_rng {low high m : Int} : m ∈ rng low high ↔ low ≤ m ∧ m ≤ high := by
  unfold rng
  rw [List.mem_map]
  constructor
  · rintro ⟨i, hi, rfl⟩
    have := List.mem_range.1 hi
    omega
  · intro h
    exact ⟨(m - low).toNat, List.mem_range.2 (by omega), by omega⟩
theorem rng_split {low high p : Int} (h1 : low ≤ p) (h2 : p ≤ high) : ∃ r, rng low high = rng low (p - 1) ++ p :: r := by
  unfold rng
  have e : (high - low + 1).toNat = (p - 1 - low + 1).toNat + ((high - p).toNat + 1) := by omega
  rw [e, List.range_add, List.map_append, List.range_succ_eq_map]
  simp only [List.map_cons, List.map_map]
  have e2 : low + (((p - 1 - low + 1).toNat + 0 : Nat) : Int) = p := by omega
  rw [e2]
  exact ⟨_, rfl⟩
theorem take_fun {G : Gp} {g : PoolG} {held : List (T4 × Bool)} {first : V4} {x : Int} {plain : Bool} {r : Option T4} (hl : g.l = G.L) (hlo : g.low = G.low) (hhi : g.high = G.high) (h : TakeR g held first x plain r) : takeA G held first x plain = r := by
  unfold takeA cands
  rw [← hl, ← hlo, ← hhi]
  cases r with
  | none =>
    rw [List.find?_eq_none]
    intro t ht hc
    obtain ⟨a, ha, hm⟩ := List.mem_flatMap.1 ht
    obtain ⟨m, hm2, rfl⟩ := List.mem_map.1 hm
    obtain ⟨i, hi⟩ := List.mem_iff_getElem?.1 ha
    obtain ⟨h1, h2⟩ := mem_rng.1 hm2
    exact h i a m hi h1 h2 (of_decide_eq_true hc)
  | some t =>
    obtain ⟨h1, h2, h3, i, hi, h4, h5⟩ := h
    rw [List.find?_eq_some_iff_append]
    refine ⟨decide_eq_true h3, ?_⟩
    obtain ⟨hil, hie⟩ := List.getElem?_eq_some_iff.1 hi
    obtain ⟨r, hr⟩ := rng_split h1 h2
    have e1 : ord g.l first = (ord g.l first).take i ++ t.addr :: (ord g.l first).drop (i + 1) := by
      conv => lhs; rw [← List.take_append_drop i (ord g.l first), List.drop_eq_getElem_cons hil, hie]
    refine ⟨((ord g.l first).take i).flatMap (fun a => (rng g.low g.high).map fun m => (⟨a, m⟩ : T4)) ++ (rng g.low (t.port - 1)).map (fun m => (⟨t.addr, m⟩ : T4)), r.map (fun m => (⟨t.addr, m⟩ : T4)) ++ ((ord g.l first).drop (i + 1)).flatMap (fun a => (rng g.low g.high).map fun m => (⟨a, m⟩ : T4)), ?_, ?_⟩
    · conv => lhs; rw [e1]
      rw [List.flatMap_append, List.flatMap_cons, hr]
      simp
    · intro a ha
      have : ¬ hit held plain x a := by
        rcases List.mem_append.1 ha with ha | ha
        · obtain ⟨b, hb, hm⟩ := List.mem_flatMap.1 ha
          obtain ⟨m, hm2, rfl⟩ := List.mem_map.1 hm
          obtain ⟨j, hj⟩ := List.mem_iff_getElem?.1 hb
          rw [List.getElem?_take] at hj
          split at hj
          · obtain ⟨q1, q2⟩ := mem_rng.1 hm2
            exact h4 j b m (by assumption) hj q1 q2
          · cases hj
        · obtain ⟨m, hm2, rfl⟩ := List.mem_map.1 ha
          obtain ⟨q1, q2⟩ := mem_rng.1 hm2
          exact h5 m q1 (by omega)
      simp [this]
theorem find_map {α β : Type} (f : α → β) (p : β → Bool) (l : List α) : (l.find? fun a => p (f a)).map f = (l.map f).find? p := by
  rw [List.find?_map]; rfl
theorem in_fun (l : List (Binding × Nat)) (p : Int) (t : T6) : (lookIn l p t).map (·.1) = inA (l.map (·.1)) p t := find_map (·.1) (fun b : Binding => decide (b.proto = p ∧ b.inn = t)) l
theorem out_fun (l : List (Binding × Nat)) (p : Int) (t : T4) : (lookOut l p t).map (·.1) = outA (l.map (·.1)) p t := find_map (·.1) (fun b : Binding => decide (b.proto = p ∧ b.out = t)) l
theorem id_fun (l : List (Binding × Nat)) (n : Int) : (lookId l n).map (·.1) = idA (l.map (·.1)) n := find_map (·.1) (fun b : Binding => decide (b.id = n)) l
theorem pair_fun {G : Gp} {g : BibG} {l : List (Binding × Nat)} {a : V6} {r : V4} (hf : g.first = G.first) (hs : (l.map (·.1)).Pairwise (·.id < ·.id)) (h : PairR g l a r) : pairA G (l.map (·.1)) a = r := by
  unfold pairA
  rcases h with ⟨h1, h2⟩ | ⟨q, hq, h1, h2, h3⟩
  · have : (l.map (·.1)).find? (fun b => decide (b.inn.addr = a)) = none := by
      rw [List.find?_eq_none]
      intro b hb hc
      obtain ⟨q, hq, rfl⟩ := List.mem_map.1 hb
      exact h1 q hq (of_decide_eq_true hc)
    rw [this, h2, hf]
  · cases hx : (l.map (·.1)).find? (fun b => decide (b.inn.addr = a)) with
    | none =>
      have := List.find?_eq_none.1 hx q.1 (List.mem_map.2 ⟨q, hq, rfl⟩)
      simp [h1] at this
    | some b =>
      simp only
      have hb1 : b.inn.addr = a := by have := List.find?_some hx; simpa using this
      have hbm := List.mem_of_find?_eq_some hx
      obtain ⟨q', hq', e⟩ := List.mem_map.1 hbm
      have hle : q.1.id ≤ b.id := by rw [← e]; exact h3 q' hq' (by rw [e]; exact hb1)
      -- the first of the list stands no later
      rw [List.find?_eq_some_iff_append] at hx
      obtain ⟨_, pre, post, hl, hn⟩ := hx
      have hqm : q.1 ∈ pre ++ b :: post := by rw [← hl]; exact List.mem_map.2 ⟨q, hq, rfl⟩
      rw [hl] at hs
      rcases List.mem_append.1 hqm with hm | hm
      · have := hn _ hm; simp [h1] at this
      · rcases List.mem_cons.1 hm with e2 | hm
        · rw [h2, e2]
        · have := (List.pairwise_append.1 hs).2.1
          have := (List.pairwise_cons.1 this).1 _ hm
          omega
theorem may_fun {G : Gp} {g : BibG} {st : BibS} {p : Int} {t : T6} (hm : g.max = G.max) : mayE g st p t = mayA G (ab st) p t := by
  unfold mayE mayA ab
  have := in_fun st.l p t
  have e : (lookIn st.l p t).isSome = (inA (st.l.map (·.1)) p t).isSome := by rw [← this]; simp
  rw [e, hm]; simp
end Go.Proofs.YtdcnblafepgheaaDoor
