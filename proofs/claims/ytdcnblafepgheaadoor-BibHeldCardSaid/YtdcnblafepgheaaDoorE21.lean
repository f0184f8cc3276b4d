/-
  Written by a program (wip/walks).
-/
import Derived.Test.YtdcnblafepgheaaDoorE20
namespace Go.Proofs.YtdcnblafepgheaaDoor
open Go Go.V
set_option maxRecDepth 100000
theorem kN_inj {p q : Int} (hp : 0 ≤ kindI p) (hq : 0 ≤ kindI q) (h : kN p = kN q) : p = q := by
  unfold kindI at hp hq; unfold kN at h
  grind
theorem kN_lt (p : Int) : kN p < 3 := by unfold kN; split; omega; split <;> omega
theorem aget_app {α β : Type} [DecidableEq α] (l : List (α × β)) (k : α) (v : β) (k' : α) : aget (l ++ [(k, v)]) k' = match aget l k' with | some x => some x | none => if k = k' then some v else none := by
  induction l with
  | nil => simp [aget]
  | cons p l ih =>
    rw [List.cons_append]
    unfold aget
    split
    · rfl
    · exact ih
theorem inA_none {l : List Binding} {p : Int} {t : T6} (h : inA l p t = none) : ∀ b ∈ l, b.proto = p → b.inn ≠ t := fun b hb h1 h2 => by
  have := List.find?_eq_none.1 h b hb; simp [h1, h2] at this
theorem Wf.put {G : Gp} {c : Int} {a : Ab} (h : Wf G c a) (b : Binding) (hid : b.id = a.last + 1) (hk : 0 ≤ kindI b.proto) (hi : isPort b.inn.port) (ho : isPort b.out.port ∧ b.out.addr ∈ G.L) (hin : inA a.l b.proto b.inn = none) (hh : aget (a.h (kN b.proto)) b.out = none) (hs : b.sessions = 0) (hl : (a.l.length : Int) < G.max) (hc : 0 ≤ c) :
    Wf G (c + 1) ⟨a.last + 1, a.l ++ [b], setH a.h (kN b.proto) (a.h (kN b.proto) ++ [(b.out, b.static)])⟩ := by
  have hmem : ∀ x, x ∈ a.l ++ [b] ↔ x ∈ a.l ∨ x = b := fun x => by simp
  have hset : ∀ k, setH a.h (kN b.proto) (a.h (kN b.proto) ++ [(b.out, b.static)]) k = if k = kN b.proto then a.h (kN b.proto) ++ [(b.out, b.static)] else a.h k := fun k => rfl
  have hold : ∀ x ∈ a.l, x.proto = b.proto → x.out ≠ b.out := fun x hx e e2 => by
    have := h.held x hx; rw [e, e2, hh] at this; cases this
  refine ⟨by have := h.last; show 0 ≤ a.last + 1 ∧ a.last + 1 ≤ c + 1; omega, fun x hx => ?_, ?_, fun x hx => ?_, fun x hx => ?_, fun x hx => ?_, fun x hx y hy h1 h2 => ?_, fun x hx y hy h1 h2 => ?_, fun x hx => ?_, fun k hk' t s e => ?_, fun k hk' => ?_, fun k hk' => ?_, fun x hx => ?_, ?_⟩
  · show 1 ≤ x.id ∧ x.id ≤ a.last + 1
    have := h.last
    rcases (hmem x).1 hx with hx | rfl
    · have := h.id1 x hx; omega
    · omega
  · show (a.l ++ [b]).Pairwise _
    rw [List.pairwise_append]
    refine ⟨h.ids, by simp, fun x hx y hy => ?_⟩
    simp at hy; subst hy
    have := h.id1 x hx; omega
  · rcases (hmem x).1 hx with hx | rfl
    · exact h.kind x hx
    · exact hk
  · rcases (hmem x).1 hx with hx | rfl
    · exact h.inn x hx
    · exact hi
  · rcases (hmem x).1 hx with hx | rfl
    · exact h.out x hx
    · exact ho
  · rcases (hmem x).1 hx with hx1 | hx1 <;> rcases (hmem y).1 hy with hy1 | hy1
    · exact h.ins x hx1 y hy1 h1 h2
    · subst hy1; exact absurd h2.symm (inA_none hin x hx1 h1.symm)
    · subst hx1; exact absurd h2 (inA_none hin y hy1 h1)
    · rw [hx1, hy1]
  · rcases (hmem x).1 hx with hx1 | hx1 <;> rcases (hmem y).1 hy with hy1 | hy1
    · exact h.outs x hx1 y hy1 h1 h2
    · subst hy1; exact absurd h2.symm (hold x hx1 h1.symm)
    · subst hx1; exact absurd h2 (hold y hy1 h1)
    · rw [hx1, hy1]
  · show aget (setH _ _ _ (kN x.proto)) x.out = _
    rw [hset]
    rcases (hmem x).1 hx with hx | rfl
    · split
      · rename_i e
        rw [aget_app, ← e, h.held x hx]
      · exact h.held x hx
    · rw [if_pos rfl, aget_app, hh]; simp
  · have e : aget (setH a.h (kN b.proto) (a.h (kN b.proto) ++ [(b.out, b.static)]) k) t = some s := e
    rw [hset] at e
    split at e
    · rename_i ek
      rw [aget_app] at e
      cases hx : aget (a.h (kN b.proto)) t with
      | some s' =>
        obtain ⟨x, hx1, hx2, hx3⟩ := h.back _ (kN_lt _) t s' hx
        exact ⟨x, (hmem x).2 (.inl hx1), by rw [hx2, ek], hx3⟩
      | none =>
        rw [hx] at e
        simp only at e
        split at e
        · rename_i e2; exact ⟨b, (hmem b).2 (.inr rfl), ek.symm, e2⟩
        · cases e
    · obtain ⟨x, hx1, hx2, hx3⟩ := h.back k hk' t s e
      exact ⟨x, (hmem x).2 (.inl hx1), hx2, hx3⟩
  · show ((setH _ _ _ k).map _).Nodup
    rw [hset]
    split
    · rw [List.map_append, List.nodup_append]
      refine ⟨h.hnd _ (kN_lt _), by simp, fun x hx y hy => ?_⟩
      simp at hy; subst hy
      intro e; subst e
      obtain ⟨p, hp, e2⟩ := List.mem_map.1 hx
      exact aget_none.1 hh p hp e2
    · exact h.hnd k hk'
  · show (setH _ _ _ k).length = (a.l ++ [b]).countP _
    rw [hset, List.countP_append, List.countP_singleton]
    split
    · rename_i e
      have := h.hlen _ (kN_lt b.proto)
      rw [List.length_append, this]; simp [e]
    · rename_i e
      have := h.hlen k hk'
      rw [this]; simp [Ne.symm e]
  · show 0 ≤ x.sessions ∧ x.sessions ≤ c + 1
    rcases (hmem x).1 hx with hx | rfl
    · have := h.ses x hx; omega
    · omega
  · show ((a.l ++ [b]).length : Int) ≤ G.max
    rw [List.length_append]; simp; omega
theorem ids_inj {l : List Binding} (h : l.Pairwise (·.id < ·.id)) {b x : Binding} (hb : b ∈ l) (hx : x ∈ l) (e : x.id = b.id) : x = b := by
  induction l with
  | nil => cases hb
  | cons y l ih =>
    obtain ⟨h1, h2⟩ := List.pairwise_cons.1 h
    rcases List.mem_cons.1 hb with e1 | e1 <;> rcases List.mem_cons.1 hx with e2 | e2
    · rw [e1, e2]
    · have := h1 x e2; rw [← e1] at this; omega
    · have := h1 b e1; rw [← e2] at this; omega
    · exact ih h2 e1 e2
theorem cut_cnt {l : List Binding} (h : l.Pairwise (·.id < ·.id)) {b : Binding} (hb : b ∈ l) (p : Binding → Bool) : (cutA l b.id).countP p + (if p b then 1 else 0) = l.countP p := by
  induction l with
  | nil => cases hb
  | cons y l ih =>
    obtain ⟨h1, h2⟩ := List.pairwise_cons.1 h
    unfold cutA at *
    rcases List.mem_cons.1 hb with e1 | e1
    · subst e1
      have : l.filter (fun x => !decide (x.id = b.id)) = l := List.filter_eq_self.2 fun x hx => by have := h1 x hx; simp; omega
      rw [List.filter_cons_of_neg (by simp), this, List.countP_cons]
    · have hne : y.id ≠ b.id := by have := h1 b e1; omega
      rw [List.filter_cons_of_pos (by simp [hne]), List.countP_cons, List.countP_cons]
      have := ih h2 e1
      omega
theorem del_len {l : List (T4 × Bool)} (hn : (l.map (·.1)).Nodup) {t : T4} {s : Bool} (h : aget l t = some s) : (adel l t).length + 1 = l.length := by
  induction l with
  | nil => cases h
  | cons p l ih =>
    rw [List.map_cons, List.nodup_cons] at hn
    unfold adel at *
    unfold aget at h
    split at h
    · rename_i e
      have : l.filter (fun x => !decide (x.1 = t)) = l := List.filter_eq_self.2 fun x hx => by
        have : x.1 ≠ t := fun e2 => hn.1 (List.mem_map.2 ⟨x, hx, by rw [e2, e]⟩)
        simp [this]
      rw [List.filter_cons_of_neg (by simp [e]), this]; rfl
    · rename_i e
      rw [List.filter_cons_of_pos (by simp [e]), List.length_cons, ih hn.2 h]; rfl
theorem Wf.cut {G : Gp} {c : Int} {a : Ab} (h : Wf G c a) {b : Binding} (hb : b ∈ a.l) : Wf G (c + 1) ⟨a.last, cutA a.l b.id, setH a.h (kN b.proto) (adel (a.h (kN b.proto)) b.out)⟩ := by
  have hsub : (cutA a.l b.id).Sublist a.l := List.filter_sublist
  have hmem : ∀ x, x ∈ cutA a.l b.id → x ∈ a.l ∧ x.id ≠ b.id := fun x hx => by
    obtain ⟨h1, h2⟩ := List.mem_filter.1 hx
    exact ⟨h1, by simpa using h2⟩
  have hset : ∀ k, setH a.h (kN b.proto) (adel (a.h (kN b.proto)) b.out) k = if k = kN b.proto then adel (a.h (kN b.proto)) b.out else a.h k := fun k => rfl
  refine ⟨by have := h.last; show 0 ≤ a.last ∧ a.last ≤ c + 1; omega, fun x hx => h.id1 x (hmem x hx).1, h.ids.sublist hsub, fun x hx => h.kind x (hmem x hx).1, fun x hx => h.inn x (hmem x hx).1, fun x hx => h.out x (hmem x hx).1, fun x hx y hy => h.ins x (hmem x hx).1 y (hmem y hy).1, fun x hx y hy => h.outs x (hmem x hx).1 y (hmem y hy).1, fun x hx => ?_, fun k hk t s e => ?_, fun k hk => ?_, fun k hk => ?_, fun x hx => ?_, ?_⟩
  · obtain ⟨h1, h2⟩ := hmem x hx
    show aget (setH _ _ _ (kN x.proto)) x.out = _
    rw [hset]
    split
    · rename_i e
      have hp := kN_inj (h.kind x h1) (h.kind b hb) e
      rw [aget_adel, if_neg, ← e, h.held x h1]
      intro e2
      exact h2 (by rw [h.outs b hb x h1 hp e2.symm])
    · exact h.held x h1
  · have e : aget (setH a.h (kN b.proto) (adel (a.h (kN b.proto)) b.out) k) t = some s := e
    rw [hset] at e
    split at e
    · rename_i ek
      rw [aget_adel] at e
      split at e
      · cases e
      · rename_i hne
        obtain ⟨x, hx1, hx2, hx3⟩ := h.back _ (kN_lt _) t s e
        refine ⟨x, List.mem_filter.2 ⟨hx1, ?_⟩, by rw [hx2, ek], hx3⟩
        have : x.id ≠ b.id := fun e2 => hne (by rw [← hx3, ids_inj h.ids hb hx1 e2])
        simp [this]
    · rename_i ek
      obtain ⟨x, hx1, hx2, hx3⟩ := h.back k hk t s e
      refine ⟨x, List.mem_filter.2 ⟨hx1, ?_⟩, hx2, hx3⟩
      have : x.id ≠ b.id := fun e2 => ek (by rw [← hx2, ids_inj h.ids hb hx1 e2])
      simp [this]
  · show ((setH _ _ _ k).map _).Nodup
    rw [hset]
    split
    · exact (List.filter_sublist.map _).nodup (h.hnd _ (kN_lt _))
    · exact h.hnd k hk
  · show (setH _ _ _ k).length = (cutA a.l b.id).countP _
    rw [hset]
    have h1 := cut_cnt h.ids hb (fun x => decide (kN x.proto = k))
    split
    · rename_i e
      have h2 := del_len (h.hnd _ (kN_lt b.proto)) (h.held b hb)
      have h3 := h.hlen _ (kN_lt b.proto)
      subst e
      simp at h1
      omega
    · rename_i e
      have h3 := h.hlen k hk
      simp [Ne.symm e] at h1
      omega
  · have := h.ses x (hmem x hx).1; show _ ≤ _ ∧ _ ≤ c + 1; omega
  · have := h.len; have := hsub.length_le
    show ((cutA a.l b.id).length : Int) ≤ G.max
    omega
theorem upd_mem' {l : List Binding} {id : Int} {b' x : Binding} (hx : x ∈ updA l id b') : (∃ y ∈ l, y.id = id ∧ x = b') ∨ (x ∈ l ∧ x.id ≠ id) := by
  obtain ⟨y, hy, e⟩ := List.mem_map.1 hx
  by_cases h : y.id = id
  · simp only [h, if_true] at e; exact .inl ⟨y, hy, h, e.symm⟩
  · simp only [h, if_false] at e; subst e; exact .inr ⟨hy, h⟩
theorem Wf.mono {G : Gp} {c d : Int} {a : Ab} (h : Wf G c a) (hd : c ≤ d) : Wf G d a := by
  have h1 := h.last
  exact ⟨by omega, h.id1, h.ids, h.kind, h.inn, h.out, h.ins, h.outs, h.held, h.back, h.hnd, h.hlen, fun b hb => by have := h.ses b hb; omega, h.len⟩
theorem Wf.upd {G : Gp} {c : Int} {a : Ab} (h : Wf G c a) {b : Binding} (hb : b ∈ a.l) (d : Int) (hd : 0 ≤ b.sessions + d ∧ b.sessions + d ≤ c + 1) : Wf G (c + 1) ⟨a.last, updA a.l b.id (addS b d), a.h⟩ := by
  -- each of the new list is one of the old but for its sessions
  have hm : ∀ x ∈ updA a.l b.id (addS b d), ∃ y ∈ a.l, y.id = x.id ∧ y.proto = x.proto ∧ y.inn = x.inn ∧ y.out = x.out ∧ y.static = x.static ∧ (0 ≤ x.sessions ∧ x.sessions ≤ c + 1) ∧ (x.id = b.id → x = addS b d) ∧ (x.id ≠ b.id → x = y) := fun x hx => by
    rcases upd_mem' hx with ⟨y, hy, h1, rfl⟩ | ⟨hx, h1⟩
    · exact ⟨b, hb, rfl, rfl, rfl, rfl, rfl, hd, fun _ => rfl, fun hn => absurd rfl hn⟩
    · have := h.ses x hx
      exact ⟨x, hx, rfl, rfl, rfl, rfl, rfl, by omega, fun e => absurd e h1, fun _ => rfl⟩
  have hinj : ∀ x ∈ updA a.l b.id (addS b d), ∀ y ∈ updA a.l b.id (addS b d), x.id = y.id → y = x := fun x hx y hy e => by
    obtain ⟨x', hx1, e1, _, _, _, _, _, p1, q1⟩ := hm x hx
    obtain ⟨y', hy1, e2, _, _, _, _, _, p2, q2⟩ := hm y hy
    by_cases hxb : x.id = b.id
    · rw [p1 hxb, p2 (by omega)]
    · rw [q1 hxb, q2 (by omega)]; exact ids_inj h.ids hx1 hy1 (by omega)
  have hmap : ∀ {α : Type} (φ : Binding → α), φ (addS b d) = φ b → (updA a.l b.id (addS b d)).map φ = a.l.map φ := fun φ hφ => by
    unfold updA
    rw [List.map_map]
    apply List.map_congr_left
    intro x hx
    simp only [Function.comp_apply]
    split
    · rename_i e; rw [hφ, ids_inj h.ids hb hx e]
    · rfl
  have hl : (updA a.l b.id (addS b d)).length = a.l.length := by simp [updA]
  refine ⟨by have := h.last; show 0 ≤ a.last ∧ a.last ≤ c + 1; omega, fun x hx => ?_, ?_, fun x hx => ?_, fun x hx => ?_, fun x hx => ?_, fun x hx y hy h1 h2 => ?_, fun x hx y hy h1 h2 => ?_, fun x hx => ?_, fun k hk t s e => ?_, h.hnd, fun k hk => ?_, fun x hx => ?_, ?_⟩
  · obtain ⟨y, hy, e, _⟩ := hm x hx; rw [← e]; exact h.id1 y hy
  · have h1 : ((updA a.l b.id (addS b d)).map (·.id)).Pairwise (· < ·) := by
      rw [hmap _ rfl, List.pairwise_map]; exact h.ids
    rw [List.pairwise_map] at h1; exact h1
  · obtain ⟨y, hy, _, e, _⟩ := hm x hx; rw [← e]; exact h.kind y hy
  · obtain ⟨y, hy, _, _, e, _⟩ := hm x hx; rw [← e]; exact h.inn y hy
  · obtain ⟨y, hy, _, _, _, e, _⟩ := hm x hx; rw [← e]; exact h.out y hy
  · obtain ⟨x', hx1, a1, a2, a3, _⟩ := hm x hx
    obtain ⟨y', hy1, b1, b2, b3, _⟩ := hm y hy
    have := h.ins x' hx1 y' hy1 (by rw [a2, b2]; exact h1) (by rw [a3, b3]; exact h2)
    exact hinj x hx y hy (by rw [← a1, ← b1, this])
  · obtain ⟨x', hx1, a1, a2, _, a3, _⟩ := hm x hx
    obtain ⟨y', hy1, b1, b2, _, b3, _⟩ := hm y hy
    have := h.outs x' hx1 y' hy1 (by rw [a2, b2]; exact h1) (by rw [a3, b3]; exact h2)
    exact hinj x hx y hy (by rw [← a1, ← b1, this])
  · obtain ⟨y, hy, _, e1, _, e2, e3, _⟩ := hm x hx
    show aget (a.h (kN x.proto)) x.out = _
    rw [← e1, ← e2, ← e3]; exact h.held y hy
  · obtain ⟨y, hy, e1, e2⟩ := h.back k hk t s e
    by_cases e3 : y.id = b.id
    · have := ids_inj h.ids hb hy e3
      subst this
      exact ⟨addS y d, List.mem_map.2 ⟨y, hy, by simp⟩, e1, e2⟩
    · exact ⟨y, List.mem_map.2 ⟨y, hy, by simp [e3]⟩, e1, e2⟩
  · have h2 := h.hlen k hk
    have h3 : (updA a.l b.id (addS b d)).countP (fun x => decide (kN x.proto = k)) = a.l.countP fun x => decide (kN x.proto = k) := by
      have h4 : ∀ l : List Binding, l.countP (fun x => decide (kN x.proto = k)) = (l.map (·.proto)).countP fun p => decide (kN p = k) := fun l => by rw [List.countP_map]; rfl
      rw [h4, h4, hmap _ rfl]
    show (a.h k).length = _
    rw [h2, ← h3]
  · obtain ⟨y, hy, _, _, _, _, _, e, _⟩ := hm x hx; exact e
  · show ((updA a.l b.id (addS b d)).length : Int) ≤ G.max
    rw [hl]; exact h.len
end Go.Proofs.YtdcnblafepgheaaDoor
