/-
  Written by a program (wip/walks).
-/
import Derived.Test.YtdcnblafepgheaaDoorE11
namespace Go.Proofs.YtdcnblafepgheaaDoor
open Go Go.V
set_option maxRecDepth 100000
def cutL (l : List (Binding × Nat)) (id : Int) : List (Binding × Nat) := l.filter fun q => !decide (q.1.id = id)
def updL (l : List (Binding × Nat)) (id : Int) (f : Binding → Binding) : List (Binding × Nat) := l.map fun q => if q.1.id = id then (f q.1, q.2) else q
theorem idl_cut (l : List (Binding × Nat)) (id : Int) : adel (idl l) id = idl (cutL l id) := by
  unfold adel idl cutL
  rw [List.filter_map]; rfl
theorem find_congr {α : Type} {l : List α} {f g : α → Bool} (h : ∀ a ∈ l, f a = g a) : l.find? f = l.find? g := by
  induction l with
  | nil => rfl
  | cons a l ih =>
    rw [List.find?_cons, List.find?_cons, h a (by simp), ih fun b hb => h b (by simp [hb])]
theorem cut_len {l : List (Binding × Nat)} (hn : (l.map (·.1.id)).Nodup) {q : Binding × Nat} (hq : q ∈ l) : (cutL l q.1.id).length + 1 = l.length := by
  induction l with
  | nil => cases hq
  | cons x l ih =>
    rw [List.map_cons, List.nodup_cons] at hn
    unfold cutL at *
    rcases List.mem_cons.1 hq with e | hq
    · subst e
      have : l.filter (fun q' => !decide (q'.1.id = q.1.id)) = l := List.filter_eq_self.2 fun a ha => by
        have : a.1.id ≠ q.1.id := fun e => hn.1 (List.mem_map.2 ⟨a, ha, e⟩)
        simp [this]
      rw [List.filter_cons_of_neg (by simp), this]; rfl
    · have : x.1.id ≠ q.1.id := fun e => hn.1 (List.mem_map.2 ⟨q, hq, e.symm⟩)
      rw [List.filter_cons_of_pos (by simp [this]), List.length_cons, ih hn.2 hq]; rfl
theorem same_q' {l : List (Binding × Nat)} (hn : (l.map (·.1.id)).Nodup) {q q' : Binding × Nat} (hq : q ∈ l) (hq' : q' ∈ l) (h : q'.1.id = q.1.id) : q' = q := by
  induction l with
  | nil => cases hq
  | cons x l ih =>
    rw [List.map_cons, List.nodup_cons] at hn
    rcases List.mem_cons.1 hq with e1 | e1 <;> rcases List.mem_cons.1 hq' with e2 | e2
    · rw [e1, e2]
    · exfalso; exact hn.1 (List.mem_map.2 ⟨q', e2, by rw [h, e1]⟩)
    · exfalso; exact hn.1 (List.mem_map.2 ⟨q, e1, by rw [← h, e2]⟩)
    · exact ih hn.2 e1 e2
theorem inM_cut {l : List (Binding × Nat)} (hn : (l.map (·.1.id)).Nodup) {q : Binding × Nat} (hq : q ∈ l) (hu : ∀ q' ∈ l, k6 q'.1.proto q'.1.inn = k6 q.1.proto q.1.inn → q' = q) : inM (cutL l q.1.id) = fun k => if k = k6 q.1.proto q.1.inn then none else inM l k := by
  funext k
  unfold inM cutL
  rw [List.find?_filter]
  by_cases e : k = k6 q.1.proto q.1.inn
  · rw [if_pos e, List.find?_eq_none.2]
    · rfl
    · intro x hx hc
      simp only [Bool.not_eq_true', decide_eq_false_iff_not, decide_eq_true_eq] at hc
      exact hc.1 (by rw [hu x hx (hc.2.trans e)])
  · rw [if_neg e]
    congr 1
    refine find_congr fun x hx => ?_
    by_cases h2 : k6 x.1.proto x.1.inn = k
    · have : x.1.id ≠ q.1.id := fun e2 => e (by rw [← h2, same_q' hn hq hx e2])
      simp [this]
    · simp [h2]
theorem outM_cut {l : List (Binding × Nat)} (hn : (l.map (·.1.id)).Nodup) {q : Binding × Nat} (hq : q ∈ l) (hu : ∀ q' ∈ l, k4 q'.1.proto q'.1.out = k4 q.1.proto q.1.out → q' = q) : outM (cutL l q.1.id) = fun k => if k = k4 q.1.proto q.1.out then none else outM l k := by
  funext k
  unfold outM cutL
  rw [List.find?_filter]
  by_cases e : k = k4 q.1.proto q.1.out
  · rw [if_pos e, List.find?_eq_none.2]
    · rfl
    · intro x hx hc
      simp only [Bool.not_eq_true', decide_eq_false_iff_not, decide_eq_true_eq] at hc
      exact hc.1 (by rw [hu x hx (hc.2.trans e)])
  · rw [if_neg e]
    congr 1
    refine find_congr fun x hx => ?_
    by_cases h2 : k4 x.1.proto x.1.out = k
    · have : x.1.id ≠ q.1.id := fun e2 => e (by rw [← h2, same_q' hn hq hx e2])
      simp [this]
    · simp [h2]
theorem cutL_sub (l : List (Binding × Nat)) (id : Int) : (cutL l id).Sublist l := List.filter_sublist
theorem BibIs.cut {g : BibG} {st : BibS} {w w' : World} (h : BibIs g st w) (kp : Kp (F6 g) w w') {q : Binding × Nat} (hq : q ∈ st.l)
    (hu : ∀ q' ∈ st.l, k6 q'.1.proto q'.1.inn = k6 q.1.proto q.1.inn → q' = q) (hv : ∀ q' ∈ st.l, k4 q'.1.proto q'.1.out = k4 q.1.proto q.1.out → q' = q)
    (blk : Blk w' g.tb #[.int .i64 g.max, .int .i64 st.last, u8 g.first.a, u8 g.first.b, u8 g.first.c, u8 g.first.d, .map (some g.mb), .pointer (some ⟨g.i1.ib, 0, none⟩), .pointer (some ⟨g.i2.ib, 0, none⟩), .pointer (some ⟨(g.p 0).pb, 0, none⟩), .pointer (some ⟨(g.p 1).pb, 0, none⟩), .pointer (some ⟨(g.p 2).pb, 0, none⟩)] 95)
    (map : MapAt (fun n : Int => .int .i64 n) (fun p : Nat => Value.pointer (some ⟨p, 0, none⟩)) inI w' g.mb (adel (idl st.l) q.1.id))
    (i1 : IxIs g.i1 (fun k => if k = k6 q.1.proto q.1.inn then none else inM st.l k) (st.l.length - 1) w') (i2 : IxIs g.i2 (fun k => if k = k4 q.1.proto q.1.out then none else outM st.l k) (st.l.length - 1) w') : BibIs g ⟨st.last, cutL st.l q.1.id, st.h⟩ w' := by
  have hlen := cut_len h.ids hq
  have hl2 : st.l.length - 1 = (cutL st.l q.1.id).length := by omega
  have hs := cutL_sub st.l q.1.id
  have hsub : (bfp g ⟨st.last, cutL st.l q.1.id, st.h⟩).Sublist (bfp g st) := (List.Sublist.refl _).append (hs.map _)
  refine ⟨blk, idl_cut st.l q.1.id ▸ map, fun x hx => h.boxes kp x (hs.subset hx), ?_, ?_, h.pools kp, h.tbF kp, hsub.nodup h.nd, fun hm => h.tbn (hsub.subset hm)⟩
  · rw [inM_cut h.ids hq hu, ← hl2]; exact i1
  · rw [outM_cut h.ids hq hv, ← hl2]; exact i2
end Go.Proofs.YtdcnblafepgheaaDoor
