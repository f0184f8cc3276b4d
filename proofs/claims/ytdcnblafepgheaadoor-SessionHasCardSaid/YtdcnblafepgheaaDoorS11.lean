/-
  Written by a program (wip/walks).
-/
import Derived.Test.YtdcnblafepgheaaDoorS10
namespace Go.Proofs.YtdcnblafepgheaaDoor
open Go Go.V
set_option maxRecDepth 100000
structure SesNx (g : SesG) (st : SesS) (w : World) (st' : SesS) (w' : World) : Prop where
  is : SesIs g st' w'
  kp : Kp (fun b => b ∈ sfp g st) w w'
  sub : ∀ b ∈ sfp g st', b ∈ sfp g st ∨ w.heap.size ≤ b
theorem nd4 {a b c d : List Nat} : (a ++ (b ++ (c ++ d))).Nodup ↔ a.Nodup ∧ b.Nodup ∧ c.Nodup ∧ d.Nodup ∧ (∀ x ∈ a, ∀ y ∈ b, x ≠ y) ∧ (∀ x ∈ a, ∀ y ∈ c, x ≠ y) ∧ (∀ x ∈ a, ∀ y ∈ d, x ≠ y) ∧ (∀ x ∈ b, ∀ y ∈ c, x ≠ y) ∧ (∀ x ∈ b, ∀ y ∈ d, x ≠ y) ∧ (∀ x ∈ c, ∀ y ∈ d, x ≠ y) := by
  simp only [List.nodup_append, List.mem_append]
  constructor
  · rintro ⟨h1, ⟨h2, ⟨h3, h4, h5⟩, h6⟩, h7⟩
    exact ⟨h1, h2, h3, h4, fun x hx y hy => h7 x hx y (.inl hy), fun x hx y hy => h7 x hx y (.inr (.inl hy)), fun x hx y hy => h7 x hx y (.inr (.inr hy)), fun x hx y hy => h6 x hx y (.inl hy), fun x hx y hy => h6 x hx y (.inr hy), h5⟩
  · rintro ⟨h1, h2, h3, h4, h5, h6, h7, h8, h9, h10⟩
    exact ⟨h1, ⟨h2, ⟨h3, h4, h10⟩, fun x hx y hy => hy.elim (h8 x hx y) (h9 x hx y)⟩, fun x hx y hy => hy.elim (h5 x hx y) fun hy => hy.elim (h6 x hx y) (h7 x hx y)⟩
section
variable {g : SesG} {st : SesS} {w : World}
theorem SesIs.nx (h : SesIs g st w) {st' : SesS} {w' : World} {n1 n2 : Nat} (hn1 : w.heap.size ≤ n1) (hn2 : n1 ≤ n2) (kp : Kp (fun b => b ∈ sfp g st) w w')
    (blk : Blk w' g.tb #[.int .i64 g.max, .int .i64 st'.last, .map (some g.mb), .pointer (some ⟨g.x.ib, 0, none⟩), .pointer (some ⟨g.q.qb, 0, none⟩), .map (some g.om)] 115) (map : MapAt (fun n : Int => .int .i64 n) (fun p : Nat => Value.pointer (some ⟨p, 0, none⟩)) inI w' g.mb (sidl st'.l))
    (box : ∀ p ∈ st'.l, Blk w' p.2 p.1.cs.toArray 59) (ix : IxIs g.x (keyM st'.l) st'.l.length w') (q : QIs g.q st'.qs w')
    (omap : MapAt (fun n : Int => .int .i64 n) (fun b : Nat => Value.map (some b)) inI w' g.om (oml st'.o)) (oin : ∀ e ∈ st'.o, BMap w' e.2.1 e.2.2)
    (ofs : ∀ b, (ofl st'.o b).Perm ((st'.l.filter fun p => decide (p.1.binding = b)).map (·.1.id))) (one : ∀ e ∈ st'.o, e.2.2 ≠ []) (due : st'.qs.l.Perm (st'.l.map fun p => (⟨p.1.id, p.1.due⟩ : Thing)))
    (hbn : (st'.l.map (·.2)).Nodup) (hon : (st'.o.map (·.2.1)).Nodup) (hq : ∀ b ∈ qfp g.q st'.qs, b ∈ qfp g.q st.qs ∨ n1 ≤ b ∧ b < n2)
    (hb : ∀ b ∈ st'.l.map (·.2), b ∈ st.l.map (·.2) ∨ w.heap.size ≤ b ∧ b < n1) (ho : ∀ b ∈ st'.o.map (·.2.1), b ∈ st.o.map (·.2.1) ∨ n2 ≤ b) : SesNx g st w st' w' := by
  have hlt := h.lt
  obtain ⟨d1, _, _, _, d5, d6, d7, d8, d9, d10⟩ := nd4.1 h.nd
  have l1 : ∀ b ∈ g.fx, b < w.heap.size := fun b e => hlt b (sfp_fx e)
  have l2 : ∀ b ∈ qfp g.q st.qs, b < w.heap.size := fun b e => hlt b (sfp_q e)
  have l3 : ∀ b ∈ st.l.map (·.2), b < w.heap.size := fun b e => hlt b (List.mem_append_right _ (List.mem_append_right _ (List.mem_append_left _ e)))
  have l4 : ∀ b ∈ st.o.map (·.2.1), b < w.heap.size := fun b e => hlt b (List.mem_append_right _ (List.mem_append_right _ (List.mem_append_right _ e)))
  have hsub : ∀ b ∈ sfp g st', b ∈ sfp g st ∨ w.heap.size ≤ b := by
    intro b e
    rcases List.mem_append.1 e with e | e
    · exact .inl (sfp_fx e)
    · rcases List.mem_append.1 e with e | e
      · exact (hq b e).elim (fun e => .inl (sfp_q e)) fun e => .inr (by omega)
      · rcases List.mem_append.1 e with e | e
        · exact (hb b e).elim (fun e => .inl (List.mem_append_right _ (List.mem_append_right _ (List.mem_append_left _ e)))) fun e => .inr (by omega)
        · exact (ho b e).elim (fun e => .inl (List.mem_append_right _ (List.mem_append_right _ (List.mem_append_right _ e)))) fun e => .inr (by omega)
  refine ⟨⟨blk, map, box, ix, q, omap, oin, ofs, one, due, h.tb.kp kp h.tbn, ?_, fun e => ?_⟩, kp, hsub⟩
  · refine nd4.2 ⟨d1, q.nd, hbn, hon, fun x hx y hy => ?_, fun x hx y hy => ?_, fun x hx y hy => ?_, fun x hx y hy => ?_, fun x hx y hy => ?_, fun x hx y hy => ?_⟩
    · have := l1 x hx; exact (hq y hy).elim (d5 x hx y) fun _ => by omega
    · have := l1 x hx; exact (hb y hy).elim (d6 x hx y) fun _ => by omega
    · have := l1 x hx; exact (ho y hy).elim (d7 x hx y) fun _ => by omega
    · rcases hq x hx with e | e <;> rcases hb y hy with f | f
      · exact d8 x e y f
      · have := l2 x e; omega
      · have := l3 y f; omega
      · omega
    · rcases hq x hx with e | e <;> rcases ho y hy with f | f
      · exact d9 x e y f
      · have := l2 x e; omega
      · have := l4 y f; omega
      · omega
    · rcases hb x hx with e | e <;> rcases ho y hy with f | f
      · exact d10 x e y f
      · have := l3 x e; omega
      · have := l4 y f; omega
      · omega
  · exact (hsub _ e).elim h.tbn fun e => by have := h.tb.lt; omega
theorem SesNx.same {w' : World} {F : Nat → Prop} (k : Kp F w w') (h' : SesIs g st w') (hF : ∀ b, F b → b ∈ sfp g st) : SesNx g st w st w' := ⟨h', k.mono fun b _ e => hF b e, fun _ e => .inl e⟩
-- the queue's calls, of a table
theorem qs_ids {q : QS} {l : List (Session × Nat)} (h : q.l.Perm (l.map fun p => (⟨p.1.id, p.1.due⟩ : Thing))) {x : Thing} (hx : x ∈ q.l) : ∃ p ∈ l, p.1.id = x.id ∧ p.1.due = x.due := by
  obtain ⟨p, hp, e⟩ := List.mem_map.1 (h.mem_iff.1 hx); subst e; exact ⟨p, hp, rfl, rfl⟩
theorem qlen (h : SesIs g st w) : st.qs.l.length = st.l.length := by rw [h.due.length_eq, List.length_map]
theorem qset_new {w : World} {q : QG} {qs : QS} (h : QIs q qs w) (ky due : Int) (hid : -9223372036854775808 ≤ ky ∧ ky ≤ 9223372036854775807) (hd : 0 ≤ due ∧ due ≤ 4611686018427387904) (hc : qs.l.length ≤ 1000000) (hn : ∀ x ∈ qs.l, x.id ≠ ky) :
    Rets Tryd.prog 64 #[.pointer (some ⟨q.qb, 0, none⟩), .int .i64 ky, .int .i64 due] w fun v w' => v = .int .i64 0 ∧ ∃ q', QNx q qs w q' w' ∧ q'.l.Perm (qs.l ++ [⟨ky, due⟩]) :=
  (qset_spec h ky due hid (by omega) hc).mono fun v w' h => by
    rcases h with ⟨h1, _⟩ | ⟨_, h1, q', h2, h3⟩
    · exact absurd hd h1
    · refine ⟨h1, q', h2, h3.elim (fun h => h.2) fun ⟨i, h4, h5, _⟩ => absurd h5 (hn _ ?_)⟩
      exact ix_mem h4
theorem keyM_app {l : List (Session × Nat)} {p : Session × Nat} (hno : lookS l p.1.binding p.1.peer = none) : keyM (l ++ [p]) = fun k => if k = k4 p.1.binding p.1.peer then some p.1.id else keyM l k := by
  funext k
  by_cases e : k = k4 p.1.binding p.1.peer
  · subst e
    have h1 := keyM_look l p.1.binding p.1.peer
    rw [hno] at h1
    unfold keyM at *
    rw [List.find?_append, Option.map_eq_none_iff.1 h1]; simp
  · unfold keyM
    rw [List.find?_append, if_neg e, List.find?_cons_of_neg (by simpa using Ne.symm e)]; simp
def upo (o : List (Int × Nat × List (Int × Bool))) (b : Int) (f : List (Int × Bool) → List (Int × Bool)) : List (Int × Nat × List (Int × Bool)) := o.map fun e => if e.1 = b then (e.1, e.2.1, f e.2.2) else e
theorem oml_upo (o : List (Int × Nat × List (Int × Bool))) (b : Int) (f : List (Int × Bool) → List (Int × Bool)) : oml (upo o b f) = oml o := by
  unfold oml upo; rw [List.map_map]; exact List.map_congr_left fun e _ => by simp only [Function.comp_apply]; split <;> rfl
theorem inl_upo (o : List (Int × Nat × List (Int × Bool))) (b : Int) (f : List (Int × Bool) → List (Int × Bool)) : (upo o b f).map (·.2.1) = o.map (·.2.1) := by
  unfold upo; rw [List.map_map]; exact List.map_congr_left fun e _ => by simp only [Function.comp_apply]; split <;> rfl
theorem find_upo (o : List (Int × Nat × List (Int × Bool))) (b c : Int) (f : List (Int × Bool) → List (Int × Bool)) : (upo o b f).find? (fun e => decide (e.1 = c)) = (o.find? (fun e => decide (e.1 = c))).map fun e => if e.1 = b then (e.1, e.2.1, f e.2.2) else e := by
  induction o with
  | nil => rfl
  | cons y o ih =>
    have e0 : (if y.1 = b then (y.1, y.2.1, f y.2.2) else y).1 = y.1 := by split <;> rfl
    show List.find? _ ((if y.1 = b then (y.1, y.2.1, f y.2.2) else y) :: upo o b f) = _
    by_cases hc : y.1 = c
    · rw [List.find?_cons_of_pos (by rw [e0]; simpa using hc), List.find?_cons_of_pos (by simpa using hc)]; rfl
    · rw [List.find?_cons_of_neg (by rw [e0]; simpa using hc), List.find?_cons_of_neg (by simpa using hc)]; exact ih
theorem find_key {o : List (Int × Nat × List (Int × Bool))} {c : Int} {e : Int × Nat × List (Int × Bool)} (h : o.find? (fun e => decide (e.1 = c)) = some e) : e.1 = c := by
  have h8 := List.find?_some h; simpa using h8
theorem ofl_upo (o : List (Int × Nat × List (Int × Bool))) {b : Int} (f : List (Int × Bool) → List (Int × Bool)) {e : Int × Nat × List (Int × Bool)} (he : o.find? (fun e => decide (e.1 = b)) = some e) (c : Int) : ofl (upo o b f) c = if c = b then (f e.2.2).map (·.1) else ofl o c := by
  unfold ofl
  rw [find_upo]
  by_cases hc : c = b
  · subst hc; rw [he, if_pos rfl]; simp only [Option.map_some]; rw [if_pos (find_key he)]
  · rw [if_neg hc]
    cases h : o.find? (fun e => decide (e.1 = c)) with
    | none => rfl
    | some y => simp only [Option.map_some]; rw [if_neg (fun e => hc ((find_key h).symm.trans e))]
theorem ofl_app (o : List (Int × Nat × List (Int × Bool))) {b : Int} {nb : Nat} {es : List (Int × Bool)} (hn : o.find? (fun e => decide (e.1 = b)) = none) (c : Int) : ofl (o ++ [(b, nb, es)]) c = if c = b then es.map (·.1) else ofl o c := by
  unfold ofl
  rw [List.find?_append]
  by_cases hc : c = b
  · subst hc; rw [hn, if_pos rfl]; simp
  · rw [if_neg hc, List.find?_cons_of_neg (by simpa using Ne.symm hc)]; simp
theorem ofs_app {l : List (Session × Nat)} {p : Session × Nat} {x : List Int} {c : Int} {r : List Int} (h : x.Perm ((l.filter fun p => decide (p.1.binding = c)).map (·.1.id))) (hr : r.Perm (x ++ if c = p.1.binding then [p.1.id] else [])) : r.Perm (((l ++ [p]).filter fun p => decide (p.1.binding = c)).map (·.1.id)) := by
  rw [List.filter_append, List.map_append]
  refine hr.trans (h.append ?_)
  by_cases e : c = p.1.binding
  · rw [if_pos e, List.filter_cons_of_pos (by simpa using e.symm)]; exact .refl _
  · rw [if_neg e, List.filter_cons_of_neg (by simpa using Ne.symm e)]; exact .refl _
theorem SesIs.add (h : SesIs g st w) {w' w3 w5 : World} {ns : Session} {bx : Nat} {q' : QS} {o' : List (Int × Nat × List (Int × Bool))} (hno : lookS st.l ns.binding ns.peer = none)
    {F : Nat → Prop} (kp : Kp F w w') (hF : ∀ b, F b → b ∈ sfp g st) (hFb : ∀ p ∈ st.l, ¬ F p.2) (h3 : bx < w3.heap.size) (hb0 : w.heap.size ≤ bx) (h5 : w3.heap.size ≤ w5.heap.size)
    (blk : Blk w' g.tb #[.int .i64 g.max, .int .i64 ns.id, .map (some g.mb), .pointer (some ⟨g.x.ib, 0, none⟩), .pointer (some ⟨g.q.qb, 0, none⟩), .map (some g.om)] 115) (map : MapAt (fun n : Int => .int .i64 n) (fun p : Nat => Value.pointer (some ⟨p, 0, none⟩)) inI w' g.mb (sidl st.l ++ [(ns.id, bx)]))
    (box : Blk w' bx ns.cs.toArray 59) (ix : IxIs g.x (fun k => if k = k4 ns.binding ns.peer then some ns.id else keyM st.l k) (st.l.length + 1) w') (q : QIs g.q q' w') (hq : ∀ b ∈ qfp g.q q', b ∈ qfp g.q st.qs ∨ w3.heap.size ≤ b) (hqlt : ∀ b ∈ qfp g.q q', b < w5.heap.size)
    (hp : q'.l.Perm (st.qs.l ++ [⟨ns.id, ns.due⟩]))
    (omap : MapAt (fun n : Int => .int .i64 n) (fun b : Nat => Value.map (some b)) inI w' g.om (oml o')) (oin : ∀ e ∈ o', BMap w' e.2.1 e.2.2)
    (ofs : ∀ c, (ofl o' c).Perm (ofl st.o c ++ if c = ns.binding then [ns.id] else [])) (one : ∀ e ∈ o', e.2.2 ≠ []) (hon : (o'.map (·.2.1)).Nodup) (ho : ∀ b ∈ o'.map (·.2.1), b ∈ st.o.map (·.2.1) ∨ w5.heap.size ≤ b) :
    SesNx g st w ⟨ns.id, st.l ++ [(ns, bx)], q', o'⟩ w' := by
  have hnd := (nd4.1 h.nd).2.2.1
  refine h.nx (n1 := w3.heap.size) (n2 := w5.heap.size) (by omega) h5 (kp.mono fun b _ e => hF b e) blk (by unfold sidl at map ⊢; rw [List.map_append]; exact map) (fun p hp => ?_) (by rw [keyM_app (p := (ns, bx)) hno, List.length_append]; exact ix) q omap oin (fun c => ofs_app (p := (ns, bx)) (h.ofs c) (ofs c)) one (hp.trans (by rw [List.map_append]; exact h.due.append (.refl _))) ?_ hon (fun b e => (hq b e).imp id fun e2 => ⟨e2, hqlt b e⟩) (fun b e => ?_) ho
  · rcases List.mem_append.1 hp with hp | hp
    · exact kp.get (h.box p hp) (hFb p hp)
    · rw [List.mem_singleton.1 hp]; exact box
  · rw [List.map_append, List.nodup_append]
    exact ⟨hnd, by simp, fun x hx y hy => by rw [List.map_cons, List.map_nil, List.mem_singleton] at hy; obtain ⟨p, hp, rfl⟩ := List.mem_map.1 hx; have := h.lt _ (sfp_box hp); show p.2 ≠ y; rw [hy]; omega⟩
  · rw [List.map_append] at e
    rcases List.mem_append.1 e with e | e
    · exact .inl e
    · rw [List.map_cons, List.map_nil, List.mem_singleton] at e; exact .inr (by rw [e]; exact ⟨hb0, h3⟩)
theorem find_of_mem (h : SesIs g st w) {b : Int} {e : Int × Nat × List (Int × Bool)} (hf : st.o.find? (fun e => decide (e.1 = b)) = some e) : ∀ e' ∈ st.o, e'.1 = b → e' = e := by
  have hn : (st.o.map (·.1)).Nodup := by have := h.omap.nodup; rw [oml, List.map_map] at this; exact this
  generalize st.o = o at hn hf
  induction o with
  | nil => intro _ h; cases h
  | cons y o ih =>
    rw [List.map_cons, List.nodup_cons] at hn
    intro e' he' e1
    by_cases hy : y.1 = b
    · rw [List.find?_cons_of_pos (by simpa using hy)] at hf
      rcases List.mem_cons.1 he' with e2 | e2
      · rw [e2]; exact Option.some.inj hf
      · exact absurd (List.mem_map.2 ⟨e', e2, e1.trans hy.symm⟩) hn.1
    · rw [List.find?_cons_of_neg (by simpa using hy)] at hf
      rcases List.mem_cons.1 he' with e2 | e2
      · exact absurd (e2 ▸ e1) hy
      · exact ih hn.2 hf e' e2 e1
theorem aget_oml (h : SesIs g st w) {b : Int} {e : Int × Nat × List (Int × Bool)} (hf : st.o.find? (fun e => decide (e.1 = b)) = some e) : aget (oml st.o) b = some e.2.1 :=
  aget_of_mem h.omap.nodup (List.mem_map.2 ⟨e, List.mem_of_find?_eq_some hf, by rw [find_key hf]⟩)
theorem oml_none9 {o : List (Int × Nat × List (Int × Bool))} {b : Int} (hf : o.find? (fun e => decide (e.1 = b)) = none) : aget (oml o) b = none := by
  refine aget_none.2 fun p hp e => ?_
  obtain ⟨q, hq, rfl⟩ := List.mem_map.1 hp
  exact absurd e (by simpa using List.find?_eq_none.1 hf q hq)
theorem inner_ids (h : SesIs g st w) {b : Int} {e : Int × Nat × List (Int × Bool)} (hf : st.o.find? (fun e => decide (e.1 = b)) = some e) : (e.2.2.map (·.1)).Perm ((st.l.filter fun p => decide (p.1.binding = b)).map (·.1.id)) := by
  have := h.ofs b; unfold ofl at this; rw [hf] at this; exact this
theorem inner_none (h : SesIs g st w) (hls : ∀ p ∈ st.l, p.1.id ≤ st.last) {b : Int} {e : Int × Nat × List (Int × Bool)} (hf : st.o.find? (fun e => decide (e.1 = b)) = some e) : aget e.2.2 (st.last + 1) = none := by
  refine aget_none.2 fun p hp e1 => ?_
  obtain ⟨q, hq, e2⟩ := List.mem_map.1 ((inner_ids h hf).mem_iff.1 (List.mem_map.2 ⟨p, hp, rfl⟩))
  have := hls q (List.mem_filter.1 hq).1
  rw [e2, e1] at this; omega
theorem qnew_ne (h : SesIs g st w) (hls : ∀ p ∈ st.l, p.1.id ≤ st.last) : ∀ x ∈ st.qs.l, x.id ≠ st.last + 1 := fun x hx e => by
  obtain ⟨p, hp, e1, _⟩ := qs_ids h.due hx
  have := hls p hp; omega
theorem aget_last {α β : Type} [DecidableEq α] {l : List (α × β)} {k : α} (h : aget l k = none) (v : β) : aget (l ++ [(k, v)]) k = some v := by
  induction l with
  | nil => simp [aget]
  | cons y l ih =>
    rw [aget] at h
    split at h
    · cases h
    · rename_i hc; rw [List.cons_append, aget, if_neg hc]; exact ih h
theorem room_ok {st : SesS} {b : Int} {t : T4} {m : Int} (h : ¬ (if (lookS st.l b t).isSome then 5 else if m ≤ st.l.length then 6 else 0 : Int) ≠ 0) : lookS st.l b t = none ∧ (st.l.length : Int) < m := by
  cases hl : lookS st.l b t with
  | some q => rw [hl] at h; simp at h
  | none =>
    rw [hl] at h
    by_cases hm : m ≤ (st.l.length : Int)
    · simp [hm] at h
    · exact ⟨rfl, by omega⟩
abbrev FQ (g : SesG) (st : SesS) : Nat → Prop := fun k => k = g.tb ∨ k = g.mb ∨ k = g.om ∨ k = g.x.ib ∨ k = g.x.sb ∨ k ∈ qfp g.q st.qs
abbrev FI (g : SesG) (st : SesS) (x : Nat) : Nat → Prop := fun k => k = g.tb ∨ k = g.mb ∨ k = g.om ∨ k = g.x.ib ∨ k = g.x.sb ∨ k ∈ qfp g.q st.qs ∨ k = x
theorem FI_iff {x b : Nat} : FI g st x b ↔ b ∈ g.fx ∨ b ∈ qfp g.q st.qs ∨ b = x := by simp [FI, SesG.fx, or_assoc]
theorem FQ_iff {b : Nat} : FQ g st b ↔ b ∈ g.fx ∨ b ∈ qfp g.q st.qs := by simp [FQ, SesG.fx, or_assoc]
theorem FQ_sfp {b : Nat} (h : FQ g st b) : b ∈ sfp g st := (FQ_iff.1 h).elim sfp_fx sfp_q
theorem FI_sfp {x b : Nat} (hx : x ∈ sfp g st) (h : FI g st x b) : b ∈ sfp g st := (FI_iff.1 h).elim sfp_fx fun h => h.elim sfp_q fun e => e ▸ hx
theorem FQ_box (h : SesIs g st w) {p : Session × Nat} (hp : p ∈ st.l) : ¬ FQ g st p.2 := fun e => (FQ_iff.1 e).elim (fun e => h.fx_box e hp rfl) (h.box_q hp)
theorem FQ_in (h : SesIs g st w) {e : Int × Nat × List (Int × Bool)} (he : e ∈ st.o) : ¬ FQ g st e.2.1 := fun e1 => (FQ_iff.1 e1).elim (fun e => h.fx_in e he rfl) (h.in_q he)
theorem FI_box (h : SesIs g st w) {p : Session × Nat} (hp : p ∈ st.l) {e : Int × Nat × List (Int × Bool)} (he : e ∈ st.o) : ¬ FI g st e.2.1 p.2 := fun e1 => (FI_iff.1 e1).elim (fun e => h.fx_box e hp rfl) fun e1 => e1.elim (h.box_q hp) (h.box_in hp he)
theorem in_inj (h : SesIs g st w) {e e' : Int × Nat × List (Int × Bool)} (he : e ∈ st.o) (he' : e' ∈ st.o) (e1 : e'.2.1 = e.2.1) : e' = e := by
  have hn := (nd4.1 h.nd).2.2.2.1
  generalize st.o = o at hn he he'
  induction o with
  | nil => cases he
  | cons y o ih =>
    rw [List.map_cons, List.nodup_cons] at hn
    rcases List.mem_cons.1 he with a | a <;> rcases List.mem_cons.1 he' with c | c
    · rw [a, c]
    · exact absurd (List.mem_map.2 ⟨e', c, by rw [e1, a]⟩) hn.1
    · exact absurd (List.mem_map.2 ⟨e, a, by rw [← e1, c]⟩) hn.1
    · exact ih hn.2 a c
theorem FI_in (h : SesIs g st w) {e e' : Int × Nat × List (Int × Bool)} (he : e ∈ st.o) (he' : e' ∈ st.o) (hne : e' ≠ e) : ¬ FI g st e.2.1 e'.2.1 := fun e1 => (FI_iff.1 e1).elim (fun e => h.fx_in e he' rfl) fun e1 => e1.elim (h.in_q he') fun e1 => hne (in_inj h he he' e1)
theorem SesIs.in_lt (h : SesIs g st w) : ∀ b ∈ st.o.map (·.2.1), b < w.heap.size := fun b e => h.lt b (List.mem_append_right _ (List.mem_append_right _ (List.mem_append_right _ e)))
theorem SesIs.add_none (h : SesIs g st w) {w' w3 w5 w7 : World} {ns : Session} {bx nb : Nat} {q' : QS} (hno : lookS st.l ns.binding ns.peer = none) (hf : st.o.find? (fun e => decide (e.1 = ns.binding)) = none)
    (kp : Kp (FQ g st) w w') (h3 : bx < w3.heap.size) (hb0 : w.heap.size ≤ bx) (_h03 : w.heap.size ≤ w3.heap.size) (h5 : w3.heap.size ≤ w5.heap.size) (h75 : w7.heap.size ≤ w5.heap.size)
    (blk : Blk w' g.tb #[.int .i64 g.max, .int .i64 ns.id, .map (some g.mb), .pointer (some ⟨g.x.ib, 0, none⟩), .pointer (some ⟨g.q.qb, 0, none⟩), .map (some g.om)] 115) (map : MapAt (fun n : Int => .int .i64 n) (fun p : Nat => Value.pointer (some ⟨p, 0, none⟩)) inI w' g.mb (sidl st.l ++ [(ns.id, bx)]))
    (box : Blk w' bx ns.cs.toArray 59) (ix : IxIs g.x (fun k => if k = k4 ns.binding ns.peer then some ns.id else keyM st.l k) (st.l.length + 1) w') (q : QIs g.q q' w') (hN : QNx g.q st.qs w3 q' w7)
    (hp : q'.l.Perm (st.qs.l ++ [⟨ns.id, ns.due⟩])) (hnb : w5.heap.size ≤ nb)
    (omap : MapAt (fun n : Int => .int .i64 n) (fun b : Nat => Value.map (some b)) inI w' g.om (oml st.o ++ [(ns.binding, nb)])) (hin : BMap w' nb [(ns.id, true)]) :
    SesNx g st w ⟨ns.id, st.l ++ [(ns, bx)], q', st.o ++ [(ns.binding, nb, [(ns.id, true)])]⟩ w' := by
  refine h.add hno kp (fun _ => FQ_sfp) (fun p hp => FQ_box h hp) h3 hb0 h5 blk map box ix q hN.sub (fun b e => Nat.lt_of_lt_of_le (hN.is.lt b e) h75) hp (by unfold oml; rw [List.map_append]; exact omap) (fun e he => ?_) (fun c => ?_) (fun e he => ?_) ?_ (fun b e => ?_)
  · rcases List.mem_append.1 he with he | he
    · exact (h.oin e he).kp kp (FQ_in h he)
    · rw [List.mem_singleton.1 he]; exact hin
  · rw [ofl_app _ hf]
    by_cases e : c = ns.binding
    · subst e; rw [if_pos rfl, if_pos rfl]; unfold ofl; rw [hf]; exact .refl _
    · rw [if_neg e, if_neg e, List.append_nil]
  · rcases List.mem_append.1 he with he | he
    · exact h.one e he
    · rw [List.mem_singleton.1 he]; simp
  · rw [List.map_append, List.nodup_append]
    exact ⟨(nd4.1 h.nd).2.2.2.1, by simp, fun x hx y hy => by rw [List.map_cons, List.map_nil, List.mem_singleton] at hy; have := h.in_lt x hx; rw [hy]; show x ≠ nb; omega⟩
  · rw [List.map_append] at e
    rcases List.mem_append.1 e with e | e
    · exact .inl e
    · rw [List.map_cons, List.map_nil, List.mem_singleton] at e; exact .inr (by rw [e]; exact hnb)
theorem SesIs.add_some (h : SesIs g st w) {w' w3 w7 : World} {ns : Session} {bx : Nat} {q' : QS} {e9 : Int × Nat × List (Int × Bool)} (hno : lookS st.l ns.binding ns.peer = none) (hf : st.o.find? (fun e => decide (e.1 = ns.binding)) = some e9)
    (kp : Kp (FI g st e9.2.1) w w') (h3 : bx < w3.heap.size) (hb0 : w.heap.size ≤ bx) (_h03 : w.heap.size ≤ w3.heap.size) (h5 : w3.heap.size ≤ w'.heap.size) (h75 : w7.heap.size ≤ w'.heap.size)
    (blk : Blk w' g.tb #[.int .i64 g.max, .int .i64 ns.id, .map (some g.mb), .pointer (some ⟨g.x.ib, 0, none⟩), .pointer (some ⟨g.q.qb, 0, none⟩), .map (some g.om)] 115) (map : MapAt (fun n : Int => .int .i64 n) (fun p : Nat => Value.pointer (some ⟨p, 0, none⟩)) inI w' g.mb (sidl st.l ++ [(ns.id, bx)]))
    (box : Blk w' bx ns.cs.toArray 59) (ix : IxIs g.x (fun k => if k = k4 ns.binding ns.peer then some ns.id else keyM st.l k) (st.l.length + 1) w') (q : QIs g.q q' w') (hN : QNx g.q st.qs w3 q' w7)
    (hp : q'.l.Perm (st.qs.l ++ [⟨ns.id, ns.due⟩]))
    (omap : MapAt (fun n : Int => .int .i64 n) (fun b : Nat => Value.map (some b)) inI w' g.om (oml st.o)) (hin : BMap w' e9.2.1 (e9.2.2 ++ [(ns.id, true)])) :
    SesNx g st w ⟨ns.id, st.l ++ [(ns, bx)], q', upo st.o ns.binding fun l => l ++ [(ns.id, true)]⟩ w' := by
  have he9 := List.mem_of_find?_eq_some hf
  have hk9 := find_key hf
  refine h.add hno kp (fun _ => FI_sfp (sfp_in he9)) (fun p hp => FI_box h hp he9) h3 hb0 h5 blk map box ix q hN.sub (fun b e => Nat.lt_of_lt_of_le (hN.is.lt b e) h75) hp (by rw [oml_upo]; exact omap) (fun e he => ?_) (fun c => ?_) (fun e he => ?_) (by rw [inl_upo]; exact (nd4.1 h.nd).2.2.2.1) (fun b e => .inl (by rw [inl_upo] at e; exact e))
  · obtain ⟨y, hy, rfl⟩ := List.mem_map.1 he
    by_cases e : y.1 = ns.binding
    · rw [if_pos e, find_of_mem h hf y hy e]; exact hin
    · rw [if_neg e]; exact (h.oin y hy).kp kp (FI_in h he9 hy fun e2 => e (e2 ▸ hk9))
  · rw [ofl_upo _ _ hf]
    by_cases e : c = ns.binding
    · subst e; rw [if_pos rfl, if_pos rfl]; unfold ofl; rw [hf]; simp
    · rw [if_neg e, if_neg e, List.append_nil]
  · obtain ⟨y, hy, rfl⟩ := List.mem_map.1 he
    by_cases e : y.1 = ns.binding
    · rw [if_pos e]; simp
    · rw [if_neg e]; exact h.one y hy
end
theorem sadd_none {g : SesG} {st : SesS} {w : World} (ok : SesOk g) (h : SesIs g st w)  (b : Int) (t : T4) (state due : Int) (hb : -9223372036854775808 ≤ b ∧ b ≤ 9223372036854775807) (ht : -9223372036854775808 ≤ t.port ∧ t.port ≤ 9223372036854775807) (hd9 : -9223372036854775808 ≤ due ∧ due ≤ 9223372036854775807) (hla : 0 ≤ st.last ∧ st.last ≤ 1000000) (hls : ∀ p ∈ st.l, p.1.id ≤ st.last) (hf9 : st.o.find? (fun e => decide (e.1 = b)) = none) : Rets Tryd.prog 27 #[(.pointer (some ⟨g.tb, 0, none⟩)), (.int .i64 b), (t4 t), (.int .i64 state), (.int .i64 due)] w fun v w' => ∃ st', SesNx g st w st' w' ∧ ((¬ (0 ≤ due ∧ due ≤ 4611686018427387904) ∧ st' = st ∧ v = .tuple #[sv zeroS, .int .i64 1]) ∨ ((0 ≤ due ∧ due ≤ 4611686018427387904) ∧ (if (lookS st.l b t).isSome then 5 else if g.max ≤ st.l.length then 6 else 0 : Int) ≠ 0 ∧ st' = st ∧ v = .tuple #[sv zeroS, .int .i64 (if (lookS st.l b t).isSome then 5 else if g.max ≤ st.l.length then 6 else 0 : Int)]) ∨ ((0 ≤ due ∧ due ≤ 4611686018427387904) ∧ (if (lookS st.l b t).isSome then 5 else if g.max ≤ st.l.length then 6 else 0 : Int) = 0 ∧ (∃ bx, st'.last = st.last + 1 ∧ st'.l = st.l ++ [((⟨st.last + 1, b, t, state, due⟩ : Session), bx)]) ∧ v = .tuple #[sv (⟨st.last + 1, b, t, state, due⟩ : Session), .int .i64 0])) := by
  refine enter Tryd.func27 rfl Tryd.ntmps27 rfl fun Q hret hend E hE => ?_
  have g1 : E 0 = (Vp g.tb 0) := hE 0
  have g2 : E 1 = (Vi b) := hE 1
  have g3 : E 2 = (t4 t) := hE 2
  have g4 : E 3 = (Vi state) := hE 3
  have g5 : E 4 = (Vi due) := hE 4
  clear hE
  have hb0 := h.blk; have hm0 := h.map; have hT0 := h.tb; have hx0 := h.ix; have hq0 := h.q; have ho0 := h.omap
  have hns9 : aget (sidl st.l) (st.last + 1) = none := aget_none.2 fun p hp e => by
    obtain ⟨q, hq, rfl⟩ := List.mem_map.1 hp; have h9 := hls q hq; simp only at e; omega
  have hag9 := oml_none9 hf9
  refine seq fun K6 hK6 => ?_
  refine reg ?_
  refine s_e (e_box (v := (t4 t)) g3) rfl ?_
  rintro _ w7 ⟨rfl, hb8, hk9⟩
  have ka10 : Kp (fun k => k = g.tb ∨ k = g.mb ∨ k = g.om ∨ k = g.x.ib ∨ k = g.x.sb ∨ k ∈ qfp g.q st.qs) w w7 := (Kp.then0 (Kp.refl _ _) hk9)
  refine s_e (e_alloc ze59) rfl ?_
  rintro _ w11 ⟨rfl, hb12, hk13⟩
  have ka14 := (Kp.then0 ka10 hk13)
  refine s_y (y_assign (v := (Vi 0)) rfl) rfl ?_
  refine s_nil (hK6 _ _ (genC [(0, (Vp g.tb 0)), (1, (Vi b)), (3, (Vi state)), (4, (Vi due)), (7, (Vp w.heap.size 0)), (10, (Vp w7.heap.size 0))] ⟨g1, g2, g4, g5, rfl, rfl, trivial⟩ ?_))
  clear hK6; rintro E ⟨g15, g16, g17, g18, g19, g20, -⟩
  refine seq fun K21 hK21 => ?_
  refine seq fun K22 hK22 => ?_
  refine reg ?_
  refine s_y (y_move (v := (Vp g.tb 0)) g15) rfl ?_
  have hf23 := (SesIs.k0 (SesIs.k0 h hk9) hk13)
  refine s_e (e_call ca61 (args := [(Vp g.tb 0)]) rfl (snone_spec hf23)) rfl ?_
  rintro _ w24 ⟨rfl, hk25⟩
  have ka26 := (Kp.then0 ka14 hk25)
  refine s_y (y_not rfl) rfl ?_
  refine s_y (y_move (v := Vt) rfl) rfl ?_
  refine s_gy (.yes rfl rfl) (y_move (v := (Vi due)) g18) rfl ?_
  refine s_gy (.yes rfl rfl) (y_lss rfl rfl) rfl ?_
  refine s_gy (.yes rfl rfl) (y_move (v := (.bool (decide ((due : Int) < 0)))) rfl) rfl ?_
  by_cases c27 : (due : Int) < 0
  · refine s_no (.no rfl (c := true) (congrArg Value.bool (decide_eq_true c27)) rfl) rfl ?_
    refine s_no (.no rfl (c := true) (congrArg Value.bool (decide_eq_true c27)) rfl) rfl ?_
    refine s_gy (.yes rfl rfl) (y_pick_t (congrArg Value.bool (decide_eq_true c27)) (v := Vt) rfl) rfl ?_
    refine s_y (y_pick_t rfl (v := Vt) rfl) rfl ?_
    refine s_nil (hK22 _ _ (genC [(0, (Vp g.tb 0)), (1, (Vi b)), (3, (Vi state)), (4, (Vi due)), (7, (Vp w.heap.size 0)), (10, (Vp w7.heap.size 0)), (24, Vt)] ⟨g15, g16, g17, g18, g19, g20, rfl, trivial⟩ ?_))
    clear hK22; rintro E ⟨g28, g29, g30, g31, g32, g33, g34, -⟩
    refine cond_t g34 ?_
    refine seq fun K35 hK35 => ?_
    refine reg ?_
    refine s_y (y_build (vs := []) (v := (.agg #[.int .i64 0, .int .i64 0, U0, U0, U0, U0, .int .i64 0, .int .i64 0, .int .i64 0])) rfl (fun _ => by kernel_rfl)) rfl ?_
    have hb36 := (hk25.get0 hb12)
    refine s_e0 (e_storeV (cs' := #[(Vi 0), (Vi 0), U0, U0, U0, U0, (Vi 0), (Vi 0), (Vi 0)]) [(Vi 0), (Vi 0), U0, U0, U0, U0, (Vi 0), (Vi 0), (Vi 0)] g33 (v := (.agg #[.int .i64 0, .int .i64 0, U0, U0, U0, U0, .int .i64 0, .int .i64 0, .int .i64 0])) rfl rfl sz59 hb36 rfl rfl rfl) ?_
    rintro _ w37 ⟨hb38, hk39⟩
    have ka40 := (Kp.fresh ka26 hk39 fun _ e => nl (nl hk9.size (Nat.le_refl _)) (Nat.le_of_eq e.symm))
    refine s_y (y_assign (v := (Vi 1)) rfl) rfl ?_
    refine s_nil (hK35 _ _ (genC [(10, (Vp w7.heap.size 0)), (11, (Vi 1))] ⟨g33, rfl, trivial⟩ ?_))
    clear hK35; rintro E ⟨g41, g42, -⟩
    refine ret (hret _ _ [(sv (⟨0, 0, (⟨(⟨0, 0, 0, 0⟩ : V4), 0⟩ : T4), 0, 0⟩ : Session)), (Vi 1)] ⟨⟨_, g41, (rd_agg (vs := [(Vi 0), (Vi 0), U0, U0, U0, U0, (Vi 0), (Vi 0), (Vi 0)]) ag59 (On.now hb38) (by kernel_rfl) rfl)⟩, g42, trivial⟩ ?_)
    have hf43 := (SesIs.kp (SesIs.k0 hf23 hk25) hk39 (fun b hb => (fun e => (fun e => Nat.lt_irrefl _ (nt (SesIs.lt h _ e) (nl hk9.size (Nat.le_refl _)))) (e ▸ hb))) (Nat.ne_of_lt (nt (nt (hT0.lt) hk9.size) (Nat.le_refl _))))
    exact ⟨st, SesNx.same ka40 hf43 (fun _ => FQ_sfp), .inl ⟨by omega, rfl, rfl⟩⟩
  · refine s_gy (.yes rfl (congrArg Value.bool (decide_eq_false c27))) (y_move (v := (Vi due)) g18) rfl ?_
    refine s_gy (.yes rfl (congrArg Value.bool (decide_eq_false c27))) (y_gtr rfl rfl) rfl ?_
    refine s_gy (.yes rfl rfl) (y_pick_f (congrArg Value.bool (decide_eq_false c27)) (v := (.bool (decide ((4611686018427387904 : Int) < due)))) rfl) rfl ?_
    refine s_y (y_pick_t rfl (v := (.bool (decide ((4611686018427387904 : Int) < due)))) rfl) rfl ?_
    refine s_nil (hK22 _ _ (genC [(0, (Vp g.tb 0)), (1, (Vi b)), (3, (Vi state)), (4, (Vi due)), (7, (Vp w.heap.size 0)), (10, (Vp w7.heap.size 0)), (24, (.bool (decide ((4611686018427387904 : Int) < due))))] ⟨g15, g16, g17, g18, g19, g20, rfl, trivial⟩ ?_))
    clear hK22; rintro E ⟨g44, g45, g46, g47, g48, g49, g50, -⟩
    refine cond_d g50 (fun c51 => ?_) (fun c51 => ?_)
    · refine seq fun K52 hK52 => ?_
      refine reg ?_
      refine s_y (y_build (vs := []) (v := (.agg #[.int .i64 0, .int .i64 0, U0, U0, U0, U0, .int .i64 0, .int .i64 0, .int .i64 0])) rfl (fun _ => by kernel_rfl)) rfl ?_
      have hb53 := (hk25.get0 hb12)
      refine s_e0 (e_storeV (cs' := #[(Vi 0), (Vi 0), U0, U0, U0, U0, (Vi 0), (Vi 0), (Vi 0)]) [(Vi 0), (Vi 0), U0, U0, U0, U0, (Vi 0), (Vi 0), (Vi 0)] g49 (v := (.agg #[.int .i64 0, .int .i64 0, U0, U0, U0, U0, .int .i64 0, .int .i64 0, .int .i64 0])) rfl rfl sz59 hb53 rfl rfl rfl) ?_
      rintro _ w54 ⟨hb55, hk56⟩
      have ka57 := (Kp.fresh ka26 hk56 fun _ e => nl (nl hk9.size (Nat.le_refl _)) (Nat.le_of_eq e.symm))
      refine s_y (y_assign (v := (Vi 1)) rfl) rfl ?_
      refine s_nil (hK52 _ _ (genC [(10, (Vp w7.heap.size 0)), (11, (Vi 1))] ⟨g49, rfl, trivial⟩ ?_))
      clear hK52; rintro E ⟨g58, g59, -⟩
      refine ret (hret _ _ [(sv (⟨0, 0, (⟨(⟨0, 0, 0, 0⟩ : V4), 0⟩ : T4), 0, 0⟩ : Session)), (Vi 1)] ⟨⟨_, g58, (rd_agg (vs := [(Vi 0), (Vi 0), U0, U0, U0, U0, (Vi 0), (Vi 0), (Vi 0)]) ag59 (On.now hb55) (by kernel_rfl) rfl)⟩, g59, trivial⟩ ?_)
      have hf60 := (SesIs.kp (SesIs.k0 hf23 hk25) hk56 (fun b hb => (fun e => (fun e => Nat.lt_irrefl _ (nt (SesIs.lt h _ e) (nl hk9.size (Nat.le_refl _)))) (e ▸ hb))) (Nat.ne_of_lt (nt (nt (hT0.lt) hk9.size) (Nat.le_refl _))))
      exact ⟨st, SesNx.same ka57 hf60 (fun _ => FQ_sfp), .inl ⟨by omega, rfl, rfl⟩⟩
    · refine skip (hK21 _ _ (genC [(0, (Vp g.tb 0)), (1, (Vi b)), (3, (Vi state)), (4, (Vi due)), (7, (Vp w.heap.size 0)), (10, (Vp w7.heap.size 0))] ⟨g44, g45, g46, g47, g48, g49, trivial⟩ ?_))
      clear hK21; rintro E ⟨g61, g62, g63, g64, g65, g66, -⟩
      refine seq fun K67 hK67 => ?_
      refine seq fun K68 hK68 => ?_
      refine reg ?_
      refine s_y (y_move (v := (Vp g.tb 0)) g61) rfl ?_
      refine s_y (y_move (v := (Vi b)) g62) rfl ?_
      have hb69 := (hk25.get0 (hk13.get0 hb8))
      refine s_y (y_load (v := (t4 t)) g65 (rd_agg (vs := t.cs) ag34 (On.now hb69) (by kernel_rfl) rfl)) rfl ?_
      have hf70 := (SesIs.k0 hf23 hk25)
      refine s_e (e_call ca36 (args := [(Vp g.tb 0), (Vi b), (t4 t)]) rfl (sroom_spec ok hf70 b t hb ht)) rfl ?_
      rintro _ w71 ⟨rfl, hk72⟩
      have ka73 := (Kp.then0 ka26 hk72)
      refine s_y (y_assign (v := (Vi ((if (lookS st.l b t).isSome then 5 else if g.max ≤ st.l.length then 6 else 0 : Int)))) rfl) rfl ?_
      refine s_nil (hK68 _ _ (genC [(0, (Vp g.tb 0)), (1, (Vi b)), (3, (Vi state)), (4, (Vi due)), (7, (Vp w.heap.size 0)), (10, (Vp w7.heap.size 0)), (12, (Vi ((if (lookS st.l b t).isSome then 5 else if g.max ≤ st.l.length then 6 else 0 : Int))))] ⟨g61, g62, g63, g64, g65, g66, rfl, trivial⟩ ?_))
      clear hK68; rintro E ⟨g74, g75, g76, g77, g78, g79, g80, -⟩
      refine seq fun K81 hK81 => ?_
      refine reg ?_
      refine s_y (y_move (v := (Vi ((if (lookS st.l b t).isSome then 5 else if g.max ≤ st.l.length then 6 else 0 : Int)))) g80) rfl ?_
      refine s_y (y_neq rfl rfl) rfl ?_
      refine s_nil (hK81 _ _ (genC [(0, (Vp g.tb 0)), (1, (Vi b)), (3, (Vi state)), (4, (Vi due)), (7, (Vp w.heap.size 0)), (10, (Vp w7.heap.size 0)), (12, (Vi ((if (lookS st.l b t).isSome then 5 else if g.max ≤ st.l.length then 6 else 0 : Int)))), (31, (.bool (decide (((if (lookS st.l b t).isSome then 5 else if g.max ≤ st.l.length then 6 else 0 : Int) : Int) ≠ 0))))] ⟨g74, g75, g76, g77, g78, g79, g80, rfl, trivial⟩ ?_))
      clear hK81; rintro E ⟨g82, g83, g84, g85, g86, g87, g88, g89, -⟩
      refine cond_d g89 (fun c90 => ?_) (fun c90 => ?_)
      · refine seq fun K91 hK91 => ?_
        refine reg ?_
        refine s_y (y_build (vs := []) (v := (.agg #[.int .i64 0, .int .i64 0, U0, U0, U0, U0, .int .i64 0, .int .i64 0, .int .i64 0])) rfl (fun _ => by kernel_rfl)) rfl ?_
        refine s_y (y_move (v := (Vi ((if (lookS st.l b t).isSome then 5 else if g.max ≤ st.l.length then 6 else 0 : Int)))) g88) rfl ?_
        have hb92 := (hk72.get0 (hk25.get0 hb12))
        refine s_e0 (e_storeV (cs' := #[(Vi 0), (Vi 0), U0, U0, U0, U0, (Vi 0), (Vi 0), (Vi 0)]) [(Vi 0), (Vi 0), U0, U0, U0, U0, (Vi 0), (Vi 0), (Vi 0)] g87 (v := (.agg #[.int .i64 0, .int .i64 0, U0, U0, U0, U0, .int .i64 0, .int .i64 0, .int .i64 0])) rfl rfl sz59 hb92 rfl rfl rfl) ?_
        rintro _ w93 ⟨hb94, hk95⟩
        have ka96 := (Kp.fresh ka73 hk95 fun _ e => nl (nl hk9.size (Nat.le_refl _)) (Nat.le_of_eq e.symm))
        refine s_y (y_assign (v := (Vi ((if (lookS st.l b t).isSome then 5 else if g.max ≤ st.l.length then 6 else 0 : Int)))) rfl) rfl ?_
        refine s_nil (hK91 _ _ (genC [(10, (Vp w7.heap.size 0)), (11, (Vi ((if (lookS st.l b t).isSome then 5 else if g.max ≤ st.l.length then 6 else 0 : Int))))] ⟨g87, rfl, trivial⟩ ?_))
        clear hK91; rintro E ⟨g97, g98, -⟩
        refine ret (hret _ _ [(sv (⟨0, 0, (⟨(⟨0, 0, 0, 0⟩ : V4), 0⟩ : T4), 0, 0⟩ : Session)), (Vi ((if (lookS st.l b t).isSome then 5 else if g.max ≤ st.l.length then 6 else 0 : Int)))] ⟨⟨_, g97, (rd_agg (vs := [(Vi 0), (Vi 0), U0, U0, U0, U0, (Vi 0), (Vi 0), (Vi 0)]) ag59 (On.now hb94) (by kernel_rfl) rfl)⟩, g98, trivial⟩ ?_)
        have hf99 := (SesIs.kp (SesIs.k0 hf70 hk72) hk95 (fun b hb => (fun e => (fun e => Nat.lt_irrefl _ (nt (SesIs.lt h _ e) (nl hk9.size (Nat.le_refl _)))) (e ▸ hb))) (Nat.ne_of_lt (nt (nt (hT0.lt) hk9.size) (Nat.le_refl _))))
        exact ⟨st, SesNx.same ka96 hf99 (fun _ => FQ_sfp), .inr (.inl ⟨⟨by omega, by omega⟩, c90, rfl, rfl⟩)⟩
      · refine skip (hK67 _ _ (genC [(0, (Vp g.tb 0)), (1, (Vi b)), (3, (Vi state)), (4, (Vi due)), (7, (Vp w.heap.size 0)), (10, (Vp w7.heap.size 0))] ⟨g82, g83, g84, g85, g86, g87, trivial⟩ ?_))
        clear hK67; rintro E ⟨g100, g101, g102, g103, g104, g105, -⟩
        refine seq fun K106 hK106 => ?_
        refine reg ?_
        refine s_y (y_move (v := (Vp g.tb 0)) g100) rfl ?_
        refine s_y (y_nil rfl) rfl ?_
        refine s_y (y_fld fo115_1 rfl) rfl ?_
        have hb107 := (hk72.get0 (hk25.get0 (hk13.get0 (hk9.get0 hb0))))
        refine s_y (y_load (v := (Vi (st.last))) rfl (rd_sc sc3 (On.now hb107) rfl)) rfl ?_
        refine s_y (y_add rfl rfl (c := st.last + 1) (by omega) rfl) rfl ?_
        refine s_y (y_nil rfl) rfl ?_
        refine s_y (y_fld fo115_1 rfl) rfl ?_
        refine s_e0 (e_storeV (cs' := #[(Vi (g.max)), (Vi (st.last + 1)), (.map (some g.mb)), (Vp g.x.ib 0), (Vp g.q.qb 0), (.map (some g.om))]) [(Vi (st.last + 1))] rfl (v := (Vi (st.last + 1))) rfl rfl sz3 hb107 rfl rfl rfl) ?_
        rintro _ w108 ⟨hb109, hk110⟩
        have ka111 := (Kp.trans ka73 hk110 (fun _ _ e => (fun e => (.inl e)) e))
        refine s_nil (hK106 _ _ (genC [(0, (Vp g.tb 0)), (1, (Vi b)), (3, (Vi state)), (4, (Vi due)), (7, (Vp w.heap.size 0)), (10, (Vp w7.heap.size 0))] ⟨g100, g101, g102, g103, g104, g105, trivial⟩ ?_))
        clear hK106; rintro E ⟨g112, g113, g114, g115, g116, g117, -⟩
        refine seq fun K118 hK118 => ?_
        refine regD (fun _ => False) (.take 0 (.take 1 (.take 2 (.take 3 (.take 4 (.take 5 (.take 6 (.take 7 (.take 8 (.one 9 (.one 10 .done))))))))))) mixed (by kernel_rfl) fun w119 hh120 hk121 => ?_
        have ka122 := (Kp.then0 ka111 hk121)
        refine o_y rfl (y_move (v := (Vp g.tb 0)) g112) ?_
        refine o_y rfl (y_nil rfl) ?_
        refine o_y rfl (y_fld fo115_1 rfl) ?_
        refine o_y rfl (y_load (v := (Vi (st.last + 1))) rfl (rd_sc sc3 (On.kp (hk121.get0 hb109) id) rfl)) ?_
        refine o_y rfl (y_move (v := (Vi b)) g113) ?_
        refine o_y rfl (y_load (v := (t4 t)) g116 (rd_agg (vs := t.cs) ag34 (On.kp (hk121.get0 (hk110.get (hk72.get0 hb69) (Nat.ne_of_gt (nt (lt_of_get hb0) (Nat.le_refl _))))) id) (by kernel_rfl) rfl)) ?_
        refine o_y rfl (y_move (v := (Vi state)) g114) ?_
        refine o_y rfl (y_move (v := (Vi due)) g115) ?_
        refine o_y rfl (y_build (vs := [(0, (Vi (st.last + 1))), (1, (Vi b)), (2, (t4 t)), (3, (Vi state)), (4, (Vi due))]) (v := (.agg #[.int .i64 (st.last + 1), .int .i64 b, u8 t.addr.a, u8 t.addr.b, u8 t.addr.c, u8 t.addr.d, .int .i64 (t.port), .int .i64 state, .int .i64 due])) rfl (fun _ => by kernel_rfl)) ?_
        refine o_one ?_
        refine c_e rfl (e_alloc ze59) ?_
        rintro _ w123 ⟨rfl, hb124, hk125⟩
        have ka126 := (Kp.then0 ka122 hk125)
        have ks127 : Kp (fun _ => False) w119 w123 := (Kp.then0 (Kp.refl _ _) hk125)
        refine ⟨ks127, ?_⟩
        refine o_one ?_
        refine c_e0 rfl (e_storeV (cs' := #[(Vi (st.last + 1)), (Vi b), (u8 t.addr.a), (u8 t.addr.b), (u8 t.addr.c), (u8 t.addr.d), (Vi (t.port)), (Vi state), (Vi due)]) [(Vi (st.last + 1)), (Vi b), (u8 t.addr.a), (u8 t.addr.b), (u8 t.addr.c), (u8 t.addr.d), (Vi (t.port)), (Vi state), (Vi due)] rfl (v := (.agg #[.int .i64 (st.last + 1), .int .i64 b, u8 t.addr.a, u8 t.addr.b, u8 t.addr.c, u8 t.addr.d, .int .i64 (t.port), .int .i64 state, .int .i64 due])) rfl rfl sz59 hb124 rfl rfl rfl) ?_
        rintro _ w128 ⟨hb129, hk130⟩
        have hz132 := (nl (nl (nl (nl (nl hk9.size hk13.size) hk25.size) hk72.size) hk110.size) hk121.size)
        have ka131 := (Kp.fresh ka126 hk130 fun _ e => nl (nl hz132 (Nat.le_refl _)) (Nat.le_of_eq e.symm))
        have ks133 := (Kp.fresh ks127 hk130 fun _ e => nl (nl (Nat.le_refl _) (Nat.le_refl _)) (Nat.le_of_eq e.symm))
        refine ⟨ks133, ?_⟩
        refine o_done (hK118 _ _ (genC [(0, (Vp g.tb 0)), (1, (Vi b)), (4, (Vi due)), (7, (Vp w.heap.size 0)), (10, (Vp w7.heap.size 0)), (13, (Vp w119.heap.size 0))] ⟨g112, g113, g115, g116, g117, rfl, trivial⟩ ?_))
        clear hK118; rintro E ⟨g134, g135, g136, g137, g138, g139, -⟩
        refine seq fun K140 hK140 => ?_
        refine regD (· = g.mb) (.take 0 (.take 1 (.take 2 (.take 3 (.take 4 (.take 5 (.one 6 .done))))))) mixed (by kernel_rfl) fun w141 hh142 hk143 => ?_
        have ka144 := (Kp.then0 ka131 hk143)
        refine o_y rfl (y_move (v := (Vp g.tb 0)) g134) ?_
        refine o_y rfl (y_nil rfl) ?_
        refine o_y rfl (y_fld fo115_2 rfl) ?_
        refine o_y rfl (y_load (v := (.map (some g.mb))) rfl (rd_sc sc110 (On.kp (hk143.get0 (hk130.get (hk125.get0 (hk121.get0 hb109)) (Nat.ne_of_lt (nt (nt (lt_of_get hb109) hk121.size) (Nat.le_refl _))))) (fx_ne h.nd (i := 0) (j := 1) (by decide) rfl rfl)) rfl)) ?_
        refine o_y rfl (y_fld fo59_0 g139) ?_
        refine o_y rfl (y_load (v := (Vi (st.last + 1))) rfl (rd_sc sc3 (On.kp (hk143.get0 hb129) (Nat.ne_of_gt (nt (nt (hm0.lt) hz132) (Nat.le_refl _)))) rfl)) ?_
        refine o_one ?_
        have hf145 := (((((((((hm0.kp hk9 id).kp hk13 id).kp hk25 id).kp hk72 id).kp hk110 (fx_ne h.nd (i := 1) (j := 0) (by decide) rfl rfl)).kp hk121 id).kp hk125 id).kp hk130 (Nat.ne_of_lt (nt (nt (hm0.lt) hz132) (Nat.le_refl _)))).kp hk143 id)
        refine c_e0 rfl (e_mapPut kf3 Tryd.underlying110 hf145 rfl rfl (v := w119.heap.size) g139 (show inI (st.last + 1) from inI_of (by omega) (by omega)) hns9) ?_
        rintro _ w146 ⟨hm147, hk148⟩
        have ka149 := (Kp.trans ka144 hk148 (fun _ _ e => (fun e => (.inr (.inl e))) e))
        have ks150 : Kp (· = g.mb) w141 w146 := (Kp.trans (Kp.refl _ _) hk148 (fun _ _ e => e))
        refine ⟨ks150, ?_⟩
        refine o_done (hK140 _ _ (genC [(0, (Vp g.tb 0)), (1, (Vi b)), (4, (Vi due)), (7, (Vp w.heap.size 0)), (10, (Vp w7.heap.size 0)), (13, (Vp w119.heap.size 0))] ⟨g134, g135, g136, g137, g138, g139, trivial⟩ ?_))
        clear hK140; rintro E ⟨g151, g152, g153, g154, g155, g156, -⟩
        refine seq fun K157 hK157 => ?_
        refine regD (fun k => k = g.x.ib ∨ k = g.x.sb) (.take 0 (.take 1 (.take 2 (.take 3 (.take 4 (.take 5 (.take 7 (.take 8 (.one 6 (.one 9 .done)))))))))) mixed (by kernel_rfl) fun w158 hh159 hk160 => ?_
        have ka161 := (Kp.then0 ka149 hk160)
        refine o_y rfl (y_move (v := (Vp g.tb 0)) g151) ?_
        refine o_y rfl (y_nil rfl) ?_
        refine o_y rfl (y_fld fo115_3 rfl) ?_
        refine o_y rfl (y_load (v := (Vp g.x.ib 0)) rfl (rd_sc sc88 (On.kp (hk160.get0 (hk148.get (hk143.get0 (hk130.get (hk125.get0 (hk121.get0 hb109)) (Nat.ne_of_lt (nt (nt (lt_of_get hb109) hk121.size) (Nat.le_refl _))))) (fx_ne h.nd (i := 0) (j := 1) (by decide) rfl rfl))) (not_or.2 ⟨(fx_ne h.nd (i := 0) (j := 3) (by decide) rfl rfl), (fx_ne h.nd (i := 0) (j := 4) (by decide) rfl rfl)⟩)) rfl)) ?_
        refine o_y rfl (y_move (v := (Vi b)) g152) ?_
        have hz162 := (nl (nl hk72.size hk110.size) hk121.size)
        refine o_y rfl (y_load (v := (t4 t)) g154 (rd_agg (vs := t.cs) ag34 (On.kp (hk160.get0 (hk148.get (hk143.get0 (hk130.get (hk125.get0 (hk121.get0 (hk110.get (hk72.get0 hb69) (Nat.ne_of_gt (nt (lt_of_get hb0) (Nat.le_refl _)))))) (Nat.ne_of_lt (nt (nt (lt_of_get hb69) hz162) (Nat.le_refl _))))) (Nat.ne_of_gt (nt (hm0.lt) (Nat.le_refl _))))) (not_or.2 ⟨(Nat.ne_of_gt (nt ((IxIs.lt hx0).1) (Nat.le_refl _))), (Nat.ne_of_gt (nt ((IxIs.lt hx0).2) (Nat.le_refl _)))⟩)) (by kernel_rfl) rfl)) ?_
        refine o_y rfl (y_fld fo59_0 g156) ?_
        refine o_y rfl (y_load (v := (Vi (st.last + 1))) rfl (rd_sc sc3 (On.kp (hk160.get0 (hk148.get (hk143.get0 hb129) (Nat.ne_of_gt (nt (nt (hm0.lt) hz132) (Nat.le_refl _))))) (not_or.2 ⟨(Nat.ne_of_gt (nt (nt ((IxIs.lt hx0).1) hz132) (Nat.le_refl _))), (Nat.ne_of_gt (nt (nt ((IxIs.lt hx0).2) hz132) (Nat.le_refl _)))⟩)) rfl)) ?_
        refine o_one ?_
        have hf163 := (((((((((((hT0.kp hk9 id).kp hk13 id).kp hk25 id).kp hk72 id).kp hk110 (Ne.symm (SesIs.fx_t h (List.mem_of_getElem? (i := 0) (rfl : g.fx[0]? = some g.tb))))).kp hk121 id).kp hk125 id).kp hk130 (Nat.ne_of_lt (nt (nt (hT0.lt) hz132) (Nat.le_refl _)))).kp hk143 id).kp hk148 (Ne.symm (SesIs.fx_t h (List.mem_of_getElem? (i := 1) (rfl : g.fx[1]? = some g.mb))))).kp hk160 id)
        refine c_e rfl (e_call ca63 (args := [(Vi b), (t4 t)]) rfl (skey_spec b t _ (by omega) (by omega) hf163)) ?_
        rintro _ w164 ⟨rfl, hk165⟩
        have ka166 := (Kp.then0 ka161 hk165)
        have ks167 : Kp (fun k => k = g.x.ib ∨ k = g.x.sb) w158 w164 := (Kp.then0 (Kp.refl _ _) hk165)
        refine ⟨ks167, ?_⟩
        refine o_one ?_
        obtain ⟨hno9, hrm9⟩ := room_ok c90
        have hnm9 := ok.n; have hnk9 : keyM st.l (k4 b t) = none := by rw [keyM_look, hno9]; rfl
        have hf168 := (IxIs.kp (IxIs.kp (IxIs.kp (IxIs.kp (IxIs.kp (IxIs.kp (IxIs.kp (IxIs.kp (IxIs.kp (IxIs.kp (IxIs.kp (IxIs.kp hx0 hk9 id id) hk13 id id) hk25 id id) hk72 id id) hk110 (fx_ne h.nd (i := 3) (j := 0) (by decide) rfl rfl) (fx_ne h.nd (i := 4) (j := 0) (by decide) rfl rfl)) hk121 id id) hk125 id id) hk130 (Nat.ne_of_lt (nt (nt ((IxIs.lt hx0).1) hz132) (Nat.le_refl _))) (Nat.ne_of_lt (nt (nt ((IxIs.lt hx0).2) hz132) (Nat.le_refl _)))) hk143 id id) hk148 (fx_ne h.nd (i := 3) (j := 1) (by decide) rfl rfl) (fx_ne h.nd (i := 4) (j := 1) (by decide) rfl rfl)) hk160 id id) hk165 id id)
        refine c_e rfl (e_call ca62 (args := [(Vp g.x.ib 0), (.string (k4 b t)), (Vi (st.last + 1))]) rfl (put_spec ok.x hf168 (k4 b t) (st.last + 1) hnk9 (by omega))) ?_
        rintro _ w169 ⟨rfl, hI170, hk171⟩
        have ka172 := (Kp.trans ka166 hk171 (fun _ _ e => (fun e => e.elim (fun e => (.inr (.inr (.inr (.inl e))))) (fun e => (.inr (.inr (.inr (.inr (.inl e))))))) e))
        have ks173 := (Kp.trans ks167 hk171 (fun _ _ e => e))
        refine ⟨ks173, ?_⟩
        refine o_done (hK157 _ _ (genC [(0, (Vp g.tb 0)), (1, (Vi b)), (4, (Vi due)), (10, (Vp w7.heap.size 0)), (13, (Vp w119.heap.size 0))] ⟨g151, g152, g153, g155, g156, trivial⟩ ?_))
        clear hK157; rintro E ⟨g174, g175, g176, g177, g178, -⟩
        refine seq fun K179 hK179 => ?_
        refine regD (fun k => k ∈ qfp g.q st.qs) (.take 0 (.take 1 (.take 2 (.take 3 (.take 4 (.take 5 (.take 6 (.one 7 .done)))))))) mixed (by kernel_rfl) fun w180 hh181 hk182 => ?_
        have ka183 := (Kp.then0 ka172 hk182)
        refine o_y rfl (y_move (v := (Vp g.tb 0)) g174) ?_
        refine o_y rfl (y_nil rfl) ?_
        refine o_y rfl (y_fld fo115_4 rfl) ?_
        refine o_y rfl (y_load (v := (Vp g.q.qb 0)) rfl (rd_sc sc111 (On.kp (hk182.get0 (hk171.get (hk165.get0 (hk160.get0 (hk148.get (hk143.get0 (hk130.get (hk125.get0 (hk121.get0 hb109)) (Nat.ne_of_lt (nt (nt (lt_of_get hb109) hk121.size) (Nat.le_refl _))))) (fx_ne h.nd (i := 0) (j := 1) (by decide) rfl rfl)))) (not_or.2 ⟨(fx_ne h.nd (i := 0) (j := 3) (by decide) rfl rfl), (fx_ne h.nd (i := 0) (j := 4) (by decide) rfl rfl)⟩))) (SesIs.fx_q h (List.mem_of_getElem? (i := 0) (rfl : g.fx[0]? = some g.tb)))) rfl)) ?_
        refine o_y rfl (y_fld fo59_0 g178) ?_
        refine o_y rfl (y_load (v := (Vi (st.last + 1))) rfl (rd_sc sc3 (On.kp (hk182.get0 (hk171.get (hk165.get0 (hk160.get0 (hk148.get (hk143.get0 hb129) (Nat.ne_of_gt (nt (nt (hm0.lt) hz132) (Nat.le_refl _)))))) (not_or.2 ⟨(Nat.ne_of_gt (nt (nt ((IxIs.lt hx0).1) hz132) (Nat.le_refl _))), (Nat.ne_of_gt (nt (nt ((IxIs.lt hx0).2) hz132) (Nat.le_refl _)))⟩))) (fun e => Nat.lt_irrefl _ (nt (SesIs.qlt h _ e) (nl hz132 (Nat.le_refl _))))) rfl)) ?_
        refine o_y rfl (y_move (v := (Vi due)) g176) ?_
        refine o_one ?_
        have hf184 := (QIs.k0 (QIs.kp (QIs.k0 (QIs.k0 (QIs.kp (QIs.k0 (QIs.kp (QIs.k0 (QIs.k0 (QIs.kp (QIs.k0 (QIs.k0 (QIs.k0 (QIs.k0 hq0 hk9) hk13) hk25) hk72) hk110 (fun b hb => (fun e => (SesIs.fx_q h (List.mem_of_getElem? (i := 0) (rfl : g.fx[0]? = some g.tb))) (e ▸ hb)))) hk121) hk125) hk130 (fun b hb => (fun e => (fun e => Nat.lt_irrefl _ (nt (SesIs.qlt h _ e) (nl hz132 (Nat.le_refl _)))) (e ▸ hb)))) hk143) hk148 (fun b hb => (fun e => (SesIs.fx_q h (List.mem_of_getElem? (i := 1) (rfl : g.fx[1]? = some g.mb))) (e ▸ hb)))) hk160) hk165) hk171 (fun b hb => (fun e => e.elim (fun e => (SesIs.fx_q h (List.mem_of_getElem? (i := 3) (rfl : g.fx[3]? = some g.x.ib))) (e ▸ hb)) (fun e => (SesIs.fx_q h (List.mem_of_getElem? (i := 4) (rfl : g.fx[4]? = some g.x.sb))) (e ▸ hb))))) hk182)
        refine c_e rfl (e_call ca64 (args := [(Vp g.q.qb 0), (Vi (st.last + 1)), (Vi due)]) rfl (qset_new hf184 (st.last + 1) due (by omega) (by omega) (by rw [qlen h]; have h9 := ok.mx; omega) (qnew_ne h hls))) ?_
        rintro _ w185 ⟨rfl, q186, hN187, hp188⟩
        have ka190 := (Kp.trans ka183 (QNx.kp hN187) (fun _ _ e => (fun e => (.inr (.inr (.inr (.inr (.inr e)))))) e))
        have ks191 : Kp (fun k => k ∈ qfp g.q st.qs) w180 w185 := (Kp.trans (Kp.refl _ _) (QNx.kp hN187) (fun _ _ e => e))
        refine ⟨ks191, ?_⟩
        refine o_done (hK179 _ _ (genC [(0, (Vp g.tb 0)), (1, (Vi b)), (10, (Vp w7.heap.size 0)), (13, (Vp w119.heap.size 0))] ⟨g174, g175, g177, g178, trivial⟩ ?_))
        clear hK179; rintro E ⟨g192, g193, g194, g195, -⟩
        refine seq fun K196 hK196 => ?_
        refine seq fun K197 hK197 => ?_
        refine reg ?_
        refine s_y (y_move (v := (Vp g.tb 0)) g192) rfl ?_
        refine s_y (y_nil rfl) rfl ?_
        refine s_y (y_fld fo115_5 rfl) rfl ?_
        have hb198 := ((QNx.kp hN187).get (hk182.get0 (hk171.get (hk165.get0 (hk160.get0 (hk148.get (hk143.get0 (hk130.get (hk125.get0 (hk121.get0 hb109)) (Nat.ne_of_lt (nt (nt (lt_of_get hb109) hk121.size) (Nat.le_refl _))))) (fx_ne h.nd (i := 0) (j := 1) (by decide) rfl rfl)))) (not_or.2 ⟨(fx_ne h.nd (i := 0) (j := 3) (by decide) rfl rfl), (fx_ne h.nd (i := 0) (j := 4) (by decide) rfl rfl)⟩))) (SesIs.fx_q h (List.mem_of_getElem? (i := 0) (rfl : g.fx[0]? = some g.tb))))
        refine s_y (y_load (v := (.map (some g.om))) rfl (rd_sc sc113 (On.now hb198) rfl)) rfl ?_
        refine s_y (y_move (v := (Vi b)) g193) rfl ?_
        have hf199 := (((((((((((((((ho0.kp hk9 id).kp hk13 id).kp hk25 id).kp hk72 id).kp hk110 (fx_ne h.nd (i := 2) (j := 0) (by decide) rfl rfl)).kp hk121 id).kp hk125 id).kp hk130 (Nat.ne_of_lt (nt (nt (ho0.lt) hz132) (Nat.le_refl _)))).kp hk143 id).kp hk148 (fx_ne h.nd (i := 2) (j := 1) (by decide) rfl rfl)).kp hk160 id).kp hk165 id).kp hk171 (not_or.2 ⟨(fx_ne h.nd (i := 2) (j := 3) (by decide) rfl rfl), (fx_ne h.nd (i := 2) (j := 4) (by decide) rfl rfl)⟩)).kp hk182 id).kp (QNx.kp hN187) (SesIs.fx_q h (List.mem_of_getElem? (i := 2) (rfl : g.fx[2]? = some g.om))))
        refine s_y (y_lookup_none kf3 Tryd.underlying113 ze120 (MapOn.now hf199) rfl rfl (show inI b from inI_of (by omega) (by omega)) hag9) rfl ?_
        refine s_y (y_meq0 Tryd.underlying120 rfl rfl) rfl ?_
        refine s_nil (hK197 _ _ (genC [(0, (Vp g.tb 0)), (1, (Vi b)), (10, (Vp w7.heap.size 0)), (13, (Vp w119.heap.size 0)), (80, Vt)] ⟨g192, g193, g194, g195, rfl, trivial⟩ ?_))
        clear hK197; rintro E ⟨g200, g201, g202, g203, g204, -⟩
        refine cond_t g204 ?_
        refine reg ?_
        refine s_y (y_move (v := (Vp g.tb 0)) g200) rfl ?_
        refine s_y (y_nil rfl) rfl ?_
        refine s_y (y_fld fo115_5 rfl) rfl ?_
        refine s_y (y_load (v := (.map (some g.om))) rfl (rd_sc sc113 (On.now hb198) rfl)) rfl ?_
        refine s_y (y_move (v := (Vi b)) g201) rfl ?_
        refine s_e e_makeMap rfl ?_
        rintro _ w205 ⟨rfl, hm206, hk207⟩
        have ka208 := (Kp.then0 ka190 hk207)
        have hmm9 : BMap w205 w185.heap.size [] := MapAt.new hm206
        have hag8 : aget ((oml st.o) ++ [(b, w185.heap.size)]) b = some w185.heap.size := aget_last hag9 _
        have hf209 := (hf199.kp hk207 id)
        refine s_e0 (e_mapPut kf3 Tryd.underlying113 hf209 rfl rfl (v := w185.heap.size) rfl (show inI b from inI_of (by omega) (by omega)) hag9) ?_
        rintro _ w210 ⟨hm211, hk212⟩
        have ka213 := (Kp.trans ka208 hk212 (fun _ _ e => (fun e => (.inr (.inr (.inl e)))) e))
        refine s_nil (hK196 _ _ (genC [(0, (Vp g.tb 0)), (1, (Vi b)), (10, (Vp w7.heap.size 0)), (13, (Vp w119.heap.size 0))] ⟨g200, g201, g202, g203, trivial⟩ ?_))
        clear hK196; rintro E ⟨g214, g215, g216, g217, -⟩
        refine seq fun K218 hK218 => ?_
        refine regD (· = w185.heap.size) (.take 0 (.take 1 (.take 2 (.take 3 (.take 4 (.take 5 (.take 6 (.take 7 (.one 8 .done))))))))) mixed (by kernel_rfl) fun w219 hh220 hk221 => ?_
        have ka222 := (Kp.then0 ka213 hk221)
        refine o_y rfl (y_move (v := (Vp g.tb 0)) g214) ?_
        refine o_y rfl (y_nil rfl) ?_
        refine o_y rfl (y_fld fo115_5 rfl) ?_
        refine o_y rfl (y_load (v := (.map (some g.om))) rfl (rd_sc sc113 (On.kp (hk221.get0 (hk212.get (hk207.get0 hb198) (fx_ne h.nd (i := 0) (j := 2) (by decide) rfl rfl))) (Nat.ne_of_lt (nt (lt_of_get hb198) (Nat.le_refl _)))) rfl)) ?_
        refine o_y rfl (y_move (v := (Vi b)) g215) ?_
        refine o_y rfl (y_lookup_some kf3 Tryd.underlying113 ze120 (MapOn.kp (hm211.kp hk221 id) (show ¬ (· = w185.heap.size) g.om from (Nat.ne_of_lt (nt (hf199.lt) (Nat.le_refl _))))) rfl rfl (show inI b from inI_of (by omega) (by omega)) hag8) ?_
        refine o_y rfl (y_fld fo59_0 g217) ?_
        have hz223 := (nl (nl (nl (nl (nl (nl hk143.size hk148.size) hk160.size) hk165.size) hk171.size) hk182.size) (QNx.kp hN187).size)
        refine o_y rfl (y_load (v := (Vi (st.last + 1))) rfl (rd_sc sc3 (On.kp (hk221.get0 (hk212.get (hk207.get0 ((QNx.kp hN187).get (hk182.get0 (hk171.get (hk165.get0 (hk160.get0 (hk148.get (hk143.get0 hb129) (Nat.ne_of_gt (nt (nt (hm0.lt) hz132) (Nat.le_refl _)))))) (not_or.2 ⟨(Nat.ne_of_gt (nt (nt ((IxIs.lt hx0).1) hz132) (Nat.le_refl _))), (Nat.ne_of_gt (nt (nt ((IxIs.lt hx0).2) hz132) (Nat.le_refl _)))⟩))) (fun e => Nat.lt_irrefl _ (nt (SesIs.qlt h _ e) (nl hz132 (Nat.le_refl _)))))) (Nat.ne_of_gt (nt (nt (ho0.lt) hz132) (Nat.le_refl _))))) (Nat.ne_of_lt (nt (nt (lt_of_get hb129) hz223) (Nat.le_refl _)))) rfl)) ?_
        refine o_one ?_
        have hf224 := ((hmm9.kp hk212 (Nat.ne_of_gt (nt (hf199.lt) (Nat.le_refl _)))).kp hk221 id)
        refine c_e0 rfl (e_mapPut kf3 Tryd.underlying120 hf224 rfl rfl (v := true) rfl (show inI (st.last + 1) from inI_of (by omega) (by omega)) rfl) ?_
        rintro _ w225 ⟨hm226, hk227⟩
        have hz229 := (nl (nl (nl (nl (nl (nl (nl (nl (nl hz132 hk125.size) hk130.size) hk143.size) hk148.size) hk160.size) hk165.size) hk171.size) hk182.size) (QNx.kp hN187).size)
        have ka228 := (Kp.fresh ka222 hk227 fun _ e => nl (nl hz229 (Nat.le_refl _)) (Nat.le_of_eq e.symm))
        have ks230 : Kp (· = w185.heap.size) w219 w225 := (Kp.trans (Kp.refl _ _) hk227 (fun _ _ e => e))
        refine ⟨ks230, ?_⟩
        refine o_done (hK218 _ _ (genC [(10, (Vp w7.heap.size 0)), (13, (Vp w119.heap.size 0))] ⟨g216, g217, trivial⟩ ?_))
        clear hK218; rintro E ⟨g231, g232, -⟩
        refine seq fun K233 hK233 => ?_
        refine reg ?_
        have hb234 := (hk227.get (hk221.get0 (hk212.get (hk207.get0 ((QNx.kp hN187).get (hk182.get0 (hk171.get (hk165.get0 (hk160.get0 (hk148.get (hk143.get0 hb129) (Nat.ne_of_gt (nt (nt (hm0.lt) hz132) (Nat.le_refl _)))))) (not_or.2 ⟨(Nat.ne_of_gt (nt (nt ((IxIs.lt hx0).1) hz132) (Nat.le_refl _))), (Nat.ne_of_gt (nt (nt ((IxIs.lt hx0).2) hz132) (Nat.le_refl _)))⟩))) (fun e => Nat.lt_irrefl _ (nt (SesIs.qlt h _ e) (nl hz132 (Nat.le_refl _)))))) (Nat.ne_of_gt (nt (nt (ho0.lt) hz132) (Nat.le_refl _))))) (Nat.ne_of_lt (nt (nt (lt_of_get hb129) hz223) (Nat.le_refl _))))
        refine s_y (y_load (v := (sv (⟨st.last + 1, b, t, state, due⟩ : Session))) g232 (rd_agg (vs := [(Vi (st.last + 1)), (Vi b), (u8 t.addr.a), (u8 t.addr.b), (u8 t.addr.c), (u8 t.addr.d), (Vi (t.port)), (Vi state), (Vi due)]) ag59 (On.now hb234) (by kernel_rfl) rfl)) rfl ?_
        have hz235 := (nl (nl (nl hk25.size hk72.size) hk110.size) hk121.size)
        have hz236 := (nl (nl (nl (nl (nl (nl (nl (nl (nl hz235 hk125.size) hk130.size) hk143.size) hk148.size) hk160.size) hk165.size) hk171.size) hk182.size) (QNx.kp hN187).size)
        have hb237 := (hk227.get (hk221.get0 (hk212.get (hk207.get0 ((QNx.kp hN187).get (hk182.get0 (hk171.get (hk165.get0 (hk160.get0 (hk148.get (hk143.get0 (hk130.get (hk125.get0 (hk121.get0 (hk110.get (hk72.get0 (hk25.get0 hb12)) (Nat.ne_of_gt (nt (nt (lt_of_get hb0) hk9.size) (Nat.le_refl _)))))) (Nat.ne_of_lt (nt (nt (lt_of_get hb12) hz235) (Nat.le_refl _))))) (Nat.ne_of_gt (nt (nt (hm0.lt) hk9.size) (Nat.le_refl _)))))) (not_or.2 ⟨(Nat.ne_of_gt (nt (nt ((IxIs.lt hx0).1) hk9.size) (Nat.le_refl _))), (Nat.ne_of_gt (nt (nt ((IxIs.lt hx0).2) hk9.size) (Nat.le_refl _)))⟩))) (fun e => Nat.lt_irrefl _ (nt (SesIs.qlt h _ e) (nl hk9.size (Nat.le_refl _)))))) (Nat.ne_of_gt (nt (nt (ho0.lt) hk9.size) (Nat.le_refl _))))) (Nat.ne_of_lt (nt (nt (lt_of_get hb12) hz236) (Nat.le_refl _))))
        refine s_e0 (e_storeV (cs' := #[(Vi (st.last + 1)), (Vi b), (u8 t.addr.a), (u8 t.addr.b), (u8 t.addr.c), (u8 t.addr.d), (Vi (t.port)), (Vi state), (Vi due)]) [(Vi (st.last + 1)), (Vi b), (u8 t.addr.a), (u8 t.addr.b), (u8 t.addr.c), (u8 t.addr.d), (Vi (t.port)), (Vi state), (Vi due)] g231 (v := (sv (⟨st.last + 1, b, t, state, due⟩ : Session))) rfl rfl sz59 hb237 rfl rfl rfl) ?_
        rintro _ w238 ⟨hb239, hk240⟩
        have ka241 := (Kp.fresh ka228 hk240 fun _ e => nl (nl hk9.size (Nat.le_refl _)) (Nat.le_of_eq e.symm))
        refine s_y (y_assign (v := (Vi 0)) rfl) rfl ?_
        refine s_nil (hK233 _ _ (genC [(10, (Vp w7.heap.size 0)), (11, (Vi 0))] ⟨g231, rfl, trivial⟩ ?_))
        clear hK233; rintro E ⟨g242, g243, -⟩
        refine ret (hret _ _ [(sv (⟨st.last + 1, b, t, state, due⟩ : Session)), (Vi 0)] ⟨⟨_, g242, (rd_agg (vs := [(Vi (st.last + 1)), (Vi b), (u8 t.addr.a), (u8 t.addr.b), (u8 t.addr.c), (u8 t.addr.d), (Vi (t.port)), (Vi state), (Vi due)]) ag59 (On.now hb239) (by kernel_rfl) rfl)⟩, g243, trivial⟩ ?_)
        have hb244 := (hk240.get (hk227.get (hk221.get0 (hk212.get (hk207.get0 hb198) (fx_ne h.nd (i := 0) (j := 2) (by decide) rfl rfl))) (Nat.ne_of_lt (nt (lt_of_get hb198) (Nat.le_refl _)))) (Nat.ne_of_lt (nt (nt (lt_of_get hb0) hk9.size) (Nat.le_refl _))))
        have hz245 := (nl (nl (nl (nl hk160.size hk165.size) hk171.size) hk182.size) (QNx.kp hN187).size)
        have hf246 := ((((((((((hm147.kp hk160 id).kp hk165 id).kp hk171 (not_or.2 ⟨(fx_ne h.nd (i := 1) (j := 3) (by decide) rfl rfl), (fx_ne h.nd (i := 1) (j := 4) (by decide) rfl rfl)⟩)).kp hk182 id).kp (QNx.kp hN187) (SesIs.fx_q h (List.mem_of_getElem? (i := 1) (rfl : g.fx[1]? = some g.mb)))).kp hk207 id).kp hk212 (fx_ne h.nd (i := 1) (j := 2) (by decide) rfl rfl)).kp hk221 id).kp hk227 (Nat.ne_of_lt (nt (nt (hm147.lt) hz245) (Nat.le_refl _)))).kp hk240 (Nat.ne_of_lt (nt (nt (hm0.lt) hk9.size) (Nat.le_refl _))))
        have hb247 := (hk240.get hb234 (Nat.ne_of_gt (nt (nt (lt_of_get hb12) hz235) (Nat.le_refl _))))
        have hf248 := (IxIs.kp (IxIs.kp (IxIs.kp (IxIs.kp (IxIs.kp (IxIs.kp (IxIs.kp hI170 hk182 id id) (QNx.kp hN187) (SesIs.fx_q h (List.mem_of_getElem? (i := 3) (rfl : g.fx[3]? = some g.x.ib))) (SesIs.fx_q h (List.mem_of_getElem? (i := 4) (rfl : g.fx[4]? = some g.x.sb)))) hk207 id id) hk212 (fx_ne h.nd (i := 3) (j := 2) (by decide) rfl rfl) (fx_ne h.nd (i := 4) (j := 2) (by decide) rfl rfl)) hk221 id id) hk227 (Nat.ne_of_lt (nt (nt ((IxIs.lt hI170).1) (nl hk182.size (QNx.kp hN187).size)) (Nat.le_refl _))) (Nat.ne_of_lt (nt (nt ((IxIs.lt hI170).2) (nl hk182.size (QNx.kp hN187).size)) (Nat.le_refl _)))) hk240 (Nat.ne_of_lt (nt (nt ((IxIs.lt hx0).1) hk9.size) (Nat.le_refl _))) (Nat.ne_of_lt (nt (nt ((IxIs.lt hx0).2) hk9.size) (Nat.le_refl _))))
        have hz249 := (nl (nl (nl (nl (nl (nl (nl (nl hz132 hk125.size) hk130.size) hk143.size) hk148.size) hk160.size) hk165.size) hk171.size) hk182.size)
        have hz250 := (nl (nl (nl (nl (nl (nl (nl (nl hz235 hk125.size) hk130.size) hk143.size) hk148.size) hk160.size) hk165.size) hk171.size) hk182.size)
        have hf251 := (QIs.kp (QIs.kp (QIs.k0 (QIs.kp (QIs.k0 (QNx.is hN187) hk207) hk212 (fun b hb => (fun e => (fun e => (QNx.sub hN187 _ e).elim (SesIs.fx_q h (List.mem_of_getElem? (i := 2) (rfl : g.fx[2]? = some g.om))) (fun e => Nat.lt_irrefl _ (nt (nt (ho0.lt) hz249) e))) (e ▸ hb)))) hk221) hk227 (fun b hb => (fun e => (fun e => Nat.lt_irrefl _ (nt (QIs.lt (QNx.is hN187) _ e) (Nat.le_refl _))) (e ▸ hb)))) hk240 (fun b hb => (fun e => (fun e => (QNx.sub hN187 _ e).elim (fun e => Nat.lt_irrefl _ (nt (SesIs.qlt h _ e) (nl hk9.size (Nat.le_refl _)))) (fun e => Nat.lt_irrefl _ (nt (nt (lt_of_get hb12) hz250) e))) (e ▸ hb))))
        have hf252 := (((hm211.kp hk221 id).kp hk227 (Nat.ne_of_lt (nt (hf199.lt) (Nat.le_refl _)))).kp hk240 (Nat.ne_of_lt (nt (nt (ho0.lt) hk9.size) (Nat.le_refl _))))
        have hf253 := (hm226.kp hk240 (Nat.ne_of_gt (nt (nt (lt_of_get hb12) hz236) (Nat.le_refl _))))
        have hz254 := (nl (nl (nl (nl (nl hk143.size hk148.size) hk160.size) hk165.size) hk171.size) hk182.size)
        exact ⟨_, SesIs.add_none (ns := (⟨st.last + 1, b, t, state, due⟩ : Session)) (bx := w119.heap.size) (nb := w185.heap.size) h hno9 hf9 ka241 (nt (lt_of_get hb129) hz254) hz132 hz249 (QNx.kp hN187).size (Nat.le_refl _) hb244 hf246 hb247 hf248 hf251 hN187 hp188 (Nat.le_refl _) hf252 hf253, .inr (.inr ⟨⟨by omega, by omega⟩, Decidable.not_not.1 c90, ⟨_, rfl, rfl⟩, rfl⟩)⟩

theorem sadd_some {g : SesG} {st : SesS} {w : World} (ok : SesOk g) (h : SesIs g st w)  (b : Int) (t : T4) (state due : Int) (hb : -9223372036854775808 ≤ b ∧ b ≤ 9223372036854775807) (ht : -9223372036854775808 ≤ t.port ∧ t.port ≤ 9223372036854775807) (hd9 : -9223372036854775808 ≤ due ∧ due ≤ 9223372036854775807) (hla : 0 ≤ st.last ∧ st.last ≤ 1000000) (hls : ∀ p ∈ st.l, p.1.id ≤ st.last) {e9 : Int × Nat × List (Int × Bool)} (hf9 : st.o.find? (fun e => decide (e.1 = b)) = some e9) : Rets Tryd.prog 27 #[(.pointer (some ⟨g.tb, 0, none⟩)), (.int .i64 b), (t4 t), (.int .i64 state), (.int .i64 due)] w fun v w' => ∃ st', SesNx g st w st' w' ∧ ((¬ (0 ≤ due ∧ due ≤ 4611686018427387904) ∧ st' = st ∧ v = .tuple #[sv zeroS, .int .i64 1]) ∨ ((0 ≤ due ∧ due ≤ 4611686018427387904) ∧ (if (lookS st.l b t).isSome then 5 else if g.max ≤ st.l.length then 6 else 0 : Int) ≠ 0 ∧ st' = st ∧ v = .tuple #[sv zeroS, .int .i64 (if (lookS st.l b t).isSome then 5 else if g.max ≤ st.l.length then 6 else 0 : Int)]) ∨ ((0 ≤ due ∧ due ≤ 4611686018427387904) ∧ (if (lookS st.l b t).isSome then 5 else if g.max ≤ st.l.length then 6 else 0 : Int) = 0 ∧ (∃ bx, st'.last = st.last + 1 ∧ st'.l = st.l ++ [((⟨st.last + 1, b, t, state, due⟩ : Session), bx)]) ∧ v = .tuple #[sv (⟨st.last + 1, b, t, state, due⟩ : Session), .int .i64 0])) := by
  refine enter Tryd.func27 rfl Tryd.ntmps27 rfl fun Q hret hend E hE => ?_
  have g1 : E 0 = (Vp g.tb 0) := hE 0
  have g2 : E 1 = (Vi b) := hE 1
  have g3 : E 2 = (t4 t) := hE 2
  have g4 : E 3 = (Vi state) := hE 3
  have g5 : E 4 = (Vi due) := hE 4
  clear hE
  have hb0 := h.blk; have hm0 := h.map; have hT0 := h.tb; have hx0 := h.ix; have hq0 := h.q; have ho0 := h.omap
  have hns9 : aget (sidl st.l) (st.last + 1) = none := aget_none.2 fun p hp e => by
    obtain ⟨q, hq, rfl⟩ := List.mem_map.1 hp; have h9 := hls q hq; simp only at e; omega
  have he9 := List.mem_of_find?_eq_some hf9; have hek9 := find_key hf9; have hi9 := h.oin e9 he9; have hag9 := aget_oml h hf9; have hin9 := inner_none h hls hf9
  refine seq fun K6 hK6 => ?_
  refine reg ?_
  refine s_e (e_box (v := (t4 t)) g3) rfl ?_
  rintro _ w7 ⟨rfl, hb8, hk9⟩
  have ka10 : Kp (fun k => k = g.tb ∨ k = g.mb ∨ k = g.om ∨ k = g.x.ib ∨ k = g.x.sb ∨ k ∈ qfp g.q st.qs ∨ k = e9.2.1) w w7 := (Kp.then0 (Kp.refl _ _) hk9)
  refine s_e (e_alloc ze59) rfl ?_
  rintro _ w11 ⟨rfl, hb12, hk13⟩
  have ka14 := (Kp.then0 ka10 hk13)
  refine s_y (y_assign (v := (Vi 0)) rfl) rfl ?_
  refine s_nil (hK6 _ _ (genC [(0, (Vp g.tb 0)), (1, (Vi b)), (3, (Vi state)), (4, (Vi due)), (7, (Vp w.heap.size 0)), (10, (Vp w7.heap.size 0))] ⟨g1, g2, g4, g5, rfl, rfl, trivial⟩ ?_))
  clear hK6; rintro E ⟨g15, g16, g17, g18, g19, g20, -⟩
  refine seq fun K21 hK21 => ?_
  refine seq fun K22 hK22 => ?_
  refine reg ?_
  refine s_y (y_move (v := (Vp g.tb 0)) g15) rfl ?_
  have hf23 := (SesIs.k0 (SesIs.k0 h hk9) hk13)
  refine s_e (e_call ca61 (args := [(Vp g.tb 0)]) rfl (snone_spec hf23)) rfl ?_
  rintro _ w24 ⟨rfl, hk25⟩
  have ka26 := (Kp.then0 ka14 hk25)
  refine s_y (y_not rfl) rfl ?_
  refine s_y (y_move (v := Vt) rfl) rfl ?_
  refine s_gy (.yes rfl rfl) (y_move (v := (Vi due)) g18) rfl ?_
  refine s_gy (.yes rfl rfl) (y_lss rfl rfl) rfl ?_
  refine s_gy (.yes rfl rfl) (y_move (v := (.bool (decide ((due : Int) < 0)))) rfl) rfl ?_
  by_cases c27 : (due : Int) < 0
  · refine s_no (.no rfl (c := true) (congrArg Value.bool (decide_eq_true c27)) rfl) rfl ?_
    refine s_no (.no rfl (c := true) (congrArg Value.bool (decide_eq_true c27)) rfl) rfl ?_
    refine s_gy (.yes rfl rfl) (y_pick_t (congrArg Value.bool (decide_eq_true c27)) (v := Vt) rfl) rfl ?_
    refine s_y (y_pick_t rfl (v := Vt) rfl) rfl ?_
    refine s_nil (hK22 _ _ (genC [(0, (Vp g.tb 0)), (1, (Vi b)), (3, (Vi state)), (4, (Vi due)), (7, (Vp w.heap.size 0)), (10, (Vp w7.heap.size 0)), (24, Vt)] ⟨g15, g16, g17, g18, g19, g20, rfl, trivial⟩ ?_))
    clear hK22; rintro E ⟨g28, g29, g30, g31, g32, g33, g34, -⟩
    refine cond_t g34 ?_
    refine seq fun K35 hK35 => ?_
    refine reg ?_
    refine s_y (y_build (vs := []) (v := (.agg #[.int .i64 0, .int .i64 0, U0, U0, U0, U0, .int .i64 0, .int .i64 0, .int .i64 0])) rfl (fun _ => by kernel_rfl)) rfl ?_
    have hb36 := (hk25.get0 hb12)
    refine s_e0 (e_storeV (cs' := #[(Vi 0), (Vi 0), U0, U0, U0, U0, (Vi 0), (Vi 0), (Vi 0)]) [(Vi 0), (Vi 0), U0, U0, U0, U0, (Vi 0), (Vi 0), (Vi 0)] g33 (v := (.agg #[.int .i64 0, .int .i64 0, U0, U0, U0, U0, .int .i64 0, .int .i64 0, .int .i64 0])) rfl rfl sz59 hb36 rfl rfl rfl) ?_
    rintro _ w37 ⟨hb38, hk39⟩
    have ka40 := (Kp.fresh ka26 hk39 fun _ e => nl (nl hk9.size (Nat.le_refl _)) (Nat.le_of_eq e.symm))
    refine s_y (y_assign (v := (Vi 1)) rfl) rfl ?_
    refine s_nil (hK35 _ _ (genC [(10, (Vp w7.heap.size 0)), (11, (Vi 1))] ⟨g33, rfl, trivial⟩ ?_))
    clear hK35; rintro E ⟨g41, g42, -⟩
    refine ret (hret _ _ [(sv (⟨0, 0, (⟨(⟨0, 0, 0, 0⟩ : V4), 0⟩ : T4), 0, 0⟩ : Session)), (Vi 1)] ⟨⟨_, g41, (rd_agg (vs := [(Vi 0), (Vi 0), U0, U0, U0, U0, (Vi 0), (Vi 0), (Vi 0)]) ag59 (On.now hb38) (by kernel_rfl) rfl)⟩, g42, trivial⟩ ?_)
    have hf43 := (SesIs.kp (SesIs.k0 hf23 hk25) hk39 (fun b hb => (fun e => (fun e => Nat.lt_irrefl _ (nt (SesIs.lt h _ e) (nl hk9.size (Nat.le_refl _)))) (e ▸ hb))) (Nat.ne_of_lt (nt (nt (hT0.lt) hk9.size) (Nat.le_refl _))))
    exact ⟨st, SesNx.same ka40 hf43 (fun _ => FI_sfp (sfp_in he9)), .inl ⟨by omega, rfl, rfl⟩⟩
  · refine s_gy (.yes rfl (congrArg Value.bool (decide_eq_false c27))) (y_move (v := (Vi due)) g18) rfl ?_
    refine s_gy (.yes rfl (congrArg Value.bool (decide_eq_false c27))) (y_gtr rfl rfl) rfl ?_
    refine s_gy (.yes rfl rfl) (y_pick_f (congrArg Value.bool (decide_eq_false c27)) (v := (.bool (decide ((4611686018427387904 : Int) < due)))) rfl) rfl ?_
    refine s_y (y_pick_t rfl (v := (.bool (decide ((4611686018427387904 : Int) < due)))) rfl) rfl ?_
    refine s_nil (hK22 _ _ (genC [(0, (Vp g.tb 0)), (1, (Vi b)), (3, (Vi state)), (4, (Vi due)), (7, (Vp w.heap.size 0)), (10, (Vp w7.heap.size 0)), (24, (.bool (decide ((4611686018427387904 : Int) < due))))] ⟨g15, g16, g17, g18, g19, g20, rfl, trivial⟩ ?_))
    clear hK22; rintro E ⟨g44, g45, g46, g47, g48, g49, g50, -⟩
    refine cond_d g50 (fun c51 => ?_) (fun c51 => ?_)
    · refine seq fun K52 hK52 => ?_
      refine reg ?_
      refine s_y (y_build (vs := []) (v := (.agg #[.int .i64 0, .int .i64 0, U0, U0, U0, U0, .int .i64 0, .int .i64 0, .int .i64 0])) rfl (fun _ => by kernel_rfl)) rfl ?_
      have hb53 := (hk25.get0 hb12)
      refine s_e0 (e_storeV (cs' := #[(Vi 0), (Vi 0), U0, U0, U0, U0, (Vi 0), (Vi 0), (Vi 0)]) [(Vi 0), (Vi 0), U0, U0, U0, U0, (Vi 0), (Vi 0), (Vi 0)] g49 (v := (.agg #[.int .i64 0, .int .i64 0, U0, U0, U0, U0, .int .i64 0, .int .i64 0, .int .i64 0])) rfl rfl sz59 hb53 rfl rfl rfl) ?_
      rintro _ w54 ⟨hb55, hk56⟩
      have ka57 := (Kp.fresh ka26 hk56 fun _ e => nl (nl hk9.size (Nat.le_refl _)) (Nat.le_of_eq e.symm))
      refine s_y (y_assign (v := (Vi 1)) rfl) rfl ?_
      refine s_nil (hK52 _ _ (genC [(10, (Vp w7.heap.size 0)), (11, (Vi 1))] ⟨g49, rfl, trivial⟩ ?_))
      clear hK52; rintro E ⟨g58, g59, -⟩
      refine ret (hret _ _ [(sv (⟨0, 0, (⟨(⟨0, 0, 0, 0⟩ : V4), 0⟩ : T4), 0, 0⟩ : Session)), (Vi 1)] ⟨⟨_, g58, (rd_agg (vs := [(Vi 0), (Vi 0), U0, U0, U0, U0, (Vi 0), (Vi 0), (Vi 0)]) ag59 (On.now hb55) (by kernel_rfl) rfl)⟩, g59, trivial⟩ ?_)
      have hf60 := (SesIs.kp (SesIs.k0 hf23 hk25) hk56 (fun b hb => (fun e => (fun e => Nat.lt_irrefl _ (nt (SesIs.lt h _ e) (nl hk9.size (Nat.le_refl _)))) (e ▸ hb))) (Nat.ne_of_lt (nt (nt (hT0.lt) hk9.size) (Nat.le_refl _))))
      exact ⟨st, SesNx.same ka57 hf60 (fun _ => FI_sfp (sfp_in he9)), .inl ⟨by omega, rfl, rfl⟩⟩
    · refine skip (hK21 _ _ (genC [(0, (Vp g.tb 0)), (1, (Vi b)), (3, (Vi state)), (4, (Vi due)), (7, (Vp w.heap.size 0)), (10, (Vp w7.heap.size 0))] ⟨g44, g45, g46, g47, g48, g49, trivial⟩ ?_))
      clear hK21; rintro E ⟨g61, g62, g63, g64, g65, g66, -⟩
      refine seq fun K67 hK67 => ?_
      refine seq fun K68 hK68 => ?_
      refine reg ?_
      refine s_y (y_move (v := (Vp g.tb 0)) g61) rfl ?_
      refine s_y (y_move (v := (Vi b)) g62) rfl ?_
      have hb69 := (hk25.get0 (hk13.get0 hb8))
      refine s_y (y_load (v := (t4 t)) g65 (rd_agg (vs := t.cs) ag34 (On.now hb69) (by kernel_rfl) rfl)) rfl ?_
      have hf70 := (SesIs.k0 hf23 hk25)
      refine s_e (e_call ca36 (args := [(Vp g.tb 0), (Vi b), (t4 t)]) rfl (sroom_spec ok hf70 b t hb ht)) rfl ?_
      rintro _ w71 ⟨rfl, hk72⟩
      have ka73 := (Kp.then0 ka26 hk72)
      refine s_y (y_assign (v := (Vi ((if (lookS st.l b t).isSome then 5 else if g.max ≤ st.l.length then 6 else 0 : Int)))) rfl) rfl ?_
      refine s_nil (hK68 _ _ (genC [(0, (Vp g.tb 0)), (1, (Vi b)), (3, (Vi state)), (4, (Vi due)), (7, (Vp w.heap.size 0)), (10, (Vp w7.heap.size 0)), (12, (Vi ((if (lookS st.l b t).isSome then 5 else if g.max ≤ st.l.length then 6 else 0 : Int))))] ⟨g61, g62, g63, g64, g65, g66, rfl, trivial⟩ ?_))
      clear hK68; rintro E ⟨g74, g75, g76, g77, g78, g79, g80, -⟩
      refine seq fun K81 hK81 => ?_
      refine reg ?_
      refine s_y (y_move (v := (Vi ((if (lookS st.l b t).isSome then 5 else if g.max ≤ st.l.length then 6 else 0 : Int)))) g80) rfl ?_
      refine s_y (y_neq rfl rfl) rfl ?_
      refine s_nil (hK81 _ _ (genC [(0, (Vp g.tb 0)), (1, (Vi b)), (3, (Vi state)), (4, (Vi due)), (7, (Vp w.heap.size 0)), (10, (Vp w7.heap.size 0)), (12, (Vi ((if (lookS st.l b t).isSome then 5 else if g.max ≤ st.l.length then 6 else 0 : Int)))), (31, (.bool (decide (((if (lookS st.l b t).isSome then 5 else if g.max ≤ st.l.length then 6 else 0 : Int) : Int) ≠ 0))))] ⟨g74, g75, g76, g77, g78, g79, g80, rfl, trivial⟩ ?_))
      clear hK81; rintro E ⟨g82, g83, g84, g85, g86, g87, g88, g89, -⟩
      refine cond_d g89 (fun c90 => ?_) (fun c90 => ?_)
      · refine seq fun K91 hK91 => ?_
        refine reg ?_
        refine s_y (y_build (vs := []) (v := (.agg #[.int .i64 0, .int .i64 0, U0, U0, U0, U0, .int .i64 0, .int .i64 0, .int .i64 0])) rfl (fun _ => by kernel_rfl)) rfl ?_
        refine s_y (y_move (v := (Vi ((if (lookS st.l b t).isSome then 5 else if g.max ≤ st.l.length then 6 else 0 : Int)))) g88) rfl ?_
        have hb92 := (hk72.get0 (hk25.get0 hb12))
        refine s_e0 (e_storeV (cs' := #[(Vi 0), (Vi 0), U0, U0, U0, U0, (Vi 0), (Vi 0), (Vi 0)]) [(Vi 0), (Vi 0), U0, U0, U0, U0, (Vi 0), (Vi 0), (Vi 0)] g87 (v := (.agg #[.int .i64 0, .int .i64 0, U0, U0, U0, U0, .int .i64 0, .int .i64 0, .int .i64 0])) rfl rfl sz59 hb92 rfl rfl rfl) ?_
        rintro _ w93 ⟨hb94, hk95⟩
        have ka96 := (Kp.fresh ka73 hk95 fun _ e => nl (nl hk9.size (Nat.le_refl _)) (Nat.le_of_eq e.symm))
        refine s_y (y_assign (v := (Vi ((if (lookS st.l b t).isSome then 5 else if g.max ≤ st.l.length then 6 else 0 : Int)))) rfl) rfl ?_
        refine s_nil (hK91 _ _ (genC [(10, (Vp w7.heap.size 0)), (11, (Vi ((if (lookS st.l b t).isSome then 5 else if g.max ≤ st.l.length then 6 else 0 : Int))))] ⟨g87, rfl, trivial⟩ ?_))
        clear hK91; rintro E ⟨g97, g98, -⟩
        refine ret (hret _ _ [(sv (⟨0, 0, (⟨(⟨0, 0, 0, 0⟩ : V4), 0⟩ : T4), 0, 0⟩ : Session)), (Vi ((if (lookS st.l b t).isSome then 5 else if g.max ≤ st.l.length then 6 else 0 : Int)))] ⟨⟨_, g97, (rd_agg (vs := [(Vi 0), (Vi 0), U0, U0, U0, U0, (Vi 0), (Vi 0), (Vi 0)]) ag59 (On.now hb94) (by kernel_rfl) rfl)⟩, g98, trivial⟩ ?_)
        have hf99 := (SesIs.kp (SesIs.k0 hf70 hk72) hk95 (fun b hb => (fun e => (fun e => Nat.lt_irrefl _ (nt (SesIs.lt h _ e) (nl hk9.size (Nat.le_refl _)))) (e ▸ hb))) (Nat.ne_of_lt (nt (nt (hT0.lt) hk9.size) (Nat.le_refl _))))
        exact ⟨st, SesNx.same ka96 hf99 (fun _ => FI_sfp (sfp_in he9)), .inr (.inl ⟨⟨by omega, by omega⟩, c90, rfl, rfl⟩)⟩
      · refine skip (hK67 _ _ (genC [(0, (Vp g.tb 0)), (1, (Vi b)), (3, (Vi state)), (4, (Vi due)), (7, (Vp w.heap.size 0)), (10, (Vp w7.heap.size 0))] ⟨g82, g83, g84, g85, g86, g87, trivial⟩ ?_))
        clear hK67; rintro E ⟨g100, g101, g102, g103, g104, g105, -⟩
        refine seq fun K106 hK106 => ?_
        refine reg ?_
        refine s_y (y_move (v := (Vp g.tb 0)) g100) rfl ?_
        refine s_y (y_nil rfl) rfl ?_
        refine s_y (y_fld fo115_1 rfl) rfl ?_
        have hb107 := (hk72.get0 (hk25.get0 (hk13.get0 (hk9.get0 hb0))))
        refine s_y (y_load (v := (Vi (st.last))) rfl (rd_sc sc3 (On.now hb107) rfl)) rfl ?_
        refine s_y (y_add rfl rfl (c := st.last + 1) (by omega) rfl) rfl ?_
        refine s_y (y_nil rfl) rfl ?_
        refine s_y (y_fld fo115_1 rfl) rfl ?_
        refine s_e0 (e_storeV (cs' := #[(Vi (g.max)), (Vi (st.last + 1)), (.map (some g.mb)), (Vp g.x.ib 0), (Vp g.q.qb 0), (.map (some g.om))]) [(Vi (st.last + 1))] rfl (v := (Vi (st.last + 1))) rfl rfl sz3 hb107 rfl rfl rfl) ?_
        rintro _ w108 ⟨hb109, hk110⟩
        have ka111 := (Kp.trans ka73 hk110 (fun _ _ e => (fun e => (.inl e)) e))
        refine s_nil (hK106 _ _ (genC [(0, (Vp g.tb 0)), (1, (Vi b)), (3, (Vi state)), (4, (Vi due)), (7, (Vp w.heap.size 0)), (10, (Vp w7.heap.size 0))] ⟨g100, g101, g102, g103, g104, g105, trivial⟩ ?_))
        clear hK106; rintro E ⟨g112, g113, g114, g115, g116, g117, -⟩
        refine seq fun K118 hK118 => ?_
        refine regD (fun _ => False) (.take 0 (.take 1 (.take 2 (.take 3 (.take 4 (.take 5 (.take 6 (.take 7 (.take 8 (.one 9 (.one 10 .done))))))))))) mixed (by kernel_rfl) fun w119 hh120 hk121 => ?_
        have ka122 := (Kp.then0 ka111 hk121)
        refine o_y rfl (y_move (v := (Vp g.tb 0)) g112) ?_
        refine o_y rfl (y_nil rfl) ?_
        refine o_y rfl (y_fld fo115_1 rfl) ?_
        refine o_y rfl (y_load (v := (Vi (st.last + 1))) rfl (rd_sc sc3 (On.kp (hk121.get0 hb109) id) rfl)) ?_
        refine o_y rfl (y_move (v := (Vi b)) g113) ?_
        refine o_y rfl (y_load (v := (t4 t)) g116 (rd_agg (vs := t.cs) ag34 (On.kp (hk121.get0 (hk110.get (hk72.get0 hb69) (Nat.ne_of_gt (nt (lt_of_get hb0) (Nat.le_refl _))))) id) (by kernel_rfl) rfl)) ?_
        refine o_y rfl (y_move (v := (Vi state)) g114) ?_
        refine o_y rfl (y_move (v := (Vi due)) g115) ?_
        refine o_y rfl (y_build (vs := [(0, (Vi (st.last + 1))), (1, (Vi b)), (2, (t4 t)), (3, (Vi state)), (4, (Vi due))]) (v := (.agg #[.int .i64 (st.last + 1), .int .i64 b, u8 t.addr.a, u8 t.addr.b, u8 t.addr.c, u8 t.addr.d, .int .i64 (t.port), .int .i64 state, .int .i64 due])) rfl (fun _ => by kernel_rfl)) ?_
        refine o_one ?_
        refine c_e rfl (e_alloc ze59) ?_
        rintro _ w123 ⟨rfl, hb124, hk125⟩
        have ka126 := (Kp.then0 ka122 hk125)
        have ks127 : Kp (fun _ => False) w119 w123 := (Kp.then0 (Kp.refl _ _) hk125)
        refine ⟨ks127, ?_⟩
        refine o_one ?_
        refine c_e0 rfl (e_storeV (cs' := #[(Vi (st.last + 1)), (Vi b), (u8 t.addr.a), (u8 t.addr.b), (u8 t.addr.c), (u8 t.addr.d), (Vi (t.port)), (Vi state), (Vi due)]) [(Vi (st.last + 1)), (Vi b), (u8 t.addr.a), (u8 t.addr.b), (u8 t.addr.c), (u8 t.addr.d), (Vi (t.port)), (Vi state), (Vi due)] rfl (v := (.agg #[.int .i64 (st.last + 1), .int .i64 b, u8 t.addr.a, u8 t.addr.b, u8 t.addr.c, u8 t.addr.d, .int .i64 (t.port), .int .i64 state, .int .i64 due])) rfl rfl sz59 hb124 rfl rfl rfl) ?_
        rintro _ w128 ⟨hb129, hk130⟩
        have hz132 := (nl (nl (nl (nl (nl hk9.size hk13.size) hk25.size) hk72.size) hk110.size) hk121.size)
        have ka131 := (Kp.fresh ka126 hk130 fun _ e => nl (nl hz132 (Nat.le_refl _)) (Nat.le_of_eq e.symm))
        have ks133 := (Kp.fresh ks127 hk130 fun _ e => nl (nl (Nat.le_refl _) (Nat.le_refl _)) (Nat.le_of_eq e.symm))
        refine ⟨ks133, ?_⟩
        refine o_done (hK118 _ _ (genC [(0, (Vp g.tb 0)), (1, (Vi b)), (4, (Vi due)), (7, (Vp w.heap.size 0)), (10, (Vp w7.heap.size 0)), (13, (Vp w119.heap.size 0))] ⟨g112, g113, g115, g116, g117, rfl, trivial⟩ ?_))
        clear hK118; rintro E ⟨g134, g135, g136, g137, g138, g139, -⟩
        refine seq fun K140 hK140 => ?_
        refine regD (· = g.mb) (.take 0 (.take 1 (.take 2 (.take 3 (.take 4 (.take 5 (.one 6 .done))))))) mixed (by kernel_rfl) fun w141 hh142 hk143 => ?_
        have ka144 := (Kp.then0 ka131 hk143)
        refine o_y rfl (y_move (v := (Vp g.tb 0)) g134) ?_
        refine o_y rfl (y_nil rfl) ?_
        refine o_y rfl (y_fld fo115_2 rfl) ?_
        refine o_y rfl (y_load (v := (.map (some g.mb))) rfl (rd_sc sc110 (On.kp (hk143.get0 (hk130.get (hk125.get0 (hk121.get0 hb109)) (Nat.ne_of_lt (nt (nt (lt_of_get hb109) hk121.size) (Nat.le_refl _))))) (fx_ne h.nd (i := 0) (j := 1) (by decide) rfl rfl)) rfl)) ?_
        refine o_y rfl (y_fld fo59_0 g139) ?_
        refine o_y rfl (y_load (v := (Vi (st.last + 1))) rfl (rd_sc sc3 (On.kp (hk143.get0 hb129) (Nat.ne_of_gt (nt (nt (hm0.lt) hz132) (Nat.le_refl _)))) rfl)) ?_
        refine o_one ?_
        have hf145 := (((((((((hm0.kp hk9 id).kp hk13 id).kp hk25 id).kp hk72 id).kp hk110 (fx_ne h.nd (i := 1) (j := 0) (by decide) rfl rfl)).kp hk121 id).kp hk125 id).kp hk130 (Nat.ne_of_lt (nt (nt (hm0.lt) hz132) (Nat.le_refl _)))).kp hk143 id)
        refine c_e0 rfl (e_mapPut kf3 Tryd.underlying110 hf145 rfl rfl (v := w119.heap.size) g139 (show inI (st.last + 1) from inI_of (by omega) (by omega)) hns9) ?_
        rintro _ w146 ⟨hm147, hk148⟩
        have ka149 := (Kp.trans ka144 hk148 (fun _ _ e => (fun e => (.inr (.inl e))) e))
        have ks150 : Kp (· = g.mb) w141 w146 := (Kp.trans (Kp.refl _ _) hk148 (fun _ _ e => e))
        refine ⟨ks150, ?_⟩
        refine o_done (hK140 _ _ (genC [(0, (Vp g.tb 0)), (1, (Vi b)), (4, (Vi due)), (7, (Vp w.heap.size 0)), (10, (Vp w7.heap.size 0)), (13, (Vp w119.heap.size 0))] ⟨g134, g135, g136, g137, g138, g139, trivial⟩ ?_))
        clear hK140; rintro E ⟨g151, g152, g153, g154, g155, g156, -⟩
        refine seq fun K157 hK157 => ?_
        refine regD (fun k => k = g.x.ib ∨ k = g.x.sb) (.take 0 (.take 1 (.take 2 (.take 3 (.take 4 (.take 5 (.take 7 (.take 8 (.one 6 (.one 9 .done)))))))))) mixed (by kernel_rfl) fun w158 hh159 hk160 => ?_
        have ka161 := (Kp.then0 ka149 hk160)
        refine o_y rfl (y_move (v := (Vp g.tb 0)) g151) ?_
        refine o_y rfl (y_nil rfl) ?_
        refine o_y rfl (y_fld fo115_3 rfl) ?_
        refine o_y rfl (y_load (v := (Vp g.x.ib 0)) rfl (rd_sc sc88 (On.kp (hk160.get0 (hk148.get (hk143.get0 (hk130.get (hk125.get0 (hk121.get0 hb109)) (Nat.ne_of_lt (nt (nt (lt_of_get hb109) hk121.size) (Nat.le_refl _))))) (fx_ne h.nd (i := 0) (j := 1) (by decide) rfl rfl))) (not_or.2 ⟨(fx_ne h.nd (i := 0) (j := 3) (by decide) rfl rfl), (fx_ne h.nd (i := 0) (j := 4) (by decide) rfl rfl)⟩)) rfl)) ?_
        refine o_y rfl (y_move (v := (Vi b)) g152) ?_
        have hz162 := (nl (nl hk72.size hk110.size) hk121.size)
        refine o_y rfl (y_load (v := (t4 t)) g154 (rd_agg (vs := t.cs) ag34 (On.kp (hk160.get0 (hk148.get (hk143.get0 (hk130.get (hk125.get0 (hk121.get0 (hk110.get (hk72.get0 hb69) (Nat.ne_of_gt (nt (lt_of_get hb0) (Nat.le_refl _)))))) (Nat.ne_of_lt (nt (nt (lt_of_get hb69) hz162) (Nat.le_refl _))))) (Nat.ne_of_gt (nt (hm0.lt) (Nat.le_refl _))))) (not_or.2 ⟨(Nat.ne_of_gt (nt ((IxIs.lt hx0).1) (Nat.le_refl _))), (Nat.ne_of_gt (nt ((IxIs.lt hx0).2) (Nat.le_refl _)))⟩)) (by kernel_rfl) rfl)) ?_
        refine o_y rfl (y_fld fo59_0 g156) ?_
        refine o_y rfl (y_load (v := (Vi (st.last + 1))) rfl (rd_sc sc3 (On.kp (hk160.get0 (hk148.get (hk143.get0 hb129) (Nat.ne_of_gt (nt (nt (hm0.lt) hz132) (Nat.le_refl _))))) (not_or.2 ⟨(Nat.ne_of_gt (nt (nt ((IxIs.lt hx0).1) hz132) (Nat.le_refl _))), (Nat.ne_of_gt (nt (nt ((IxIs.lt hx0).2) hz132) (Nat.le_refl _)))⟩)) rfl)) ?_
        refine o_one ?_
        have hf163 := (((((((((((hT0.kp hk9 id).kp hk13 id).kp hk25 id).kp hk72 id).kp hk110 (Ne.symm (SesIs.fx_t h (List.mem_of_getElem? (i := 0) (rfl : g.fx[0]? = some g.tb))))).kp hk121 id).kp hk125 id).kp hk130 (Nat.ne_of_lt (nt (nt (hT0.lt) hz132) (Nat.le_refl _)))).kp hk143 id).kp hk148 (Ne.symm (SesIs.fx_t h (List.mem_of_getElem? (i := 1) (rfl : g.fx[1]? = some g.mb))))).kp hk160 id)
        refine c_e rfl (e_call ca63 (args := [(Vi b), (t4 t)]) rfl (skey_spec b t _ (by omega) (by omega) hf163)) ?_
        rintro _ w164 ⟨rfl, hk165⟩
        have ka166 := (Kp.then0 ka161 hk165)
        have ks167 : Kp (fun k => k = g.x.ib ∨ k = g.x.sb) w158 w164 := (Kp.then0 (Kp.refl _ _) hk165)
        refine ⟨ks167, ?_⟩
        refine o_one ?_
        obtain ⟨hno9, hrm9⟩ := room_ok c90
        have hnm9 := ok.n; have hnk9 : keyM st.l (k4 b t) = none := by rw [keyM_look, hno9]; rfl
        have hf168 := (IxIs.kp (IxIs.kp (IxIs.kp (IxIs.kp (IxIs.kp (IxIs.kp (IxIs.kp (IxIs.kp (IxIs.kp (IxIs.kp (IxIs.kp (IxIs.kp hx0 hk9 id id) hk13 id id) hk25 id id) hk72 id id) hk110 (fx_ne h.nd (i := 3) (j := 0) (by decide) rfl rfl) (fx_ne h.nd (i := 4) (j := 0) (by decide) rfl rfl)) hk121 id id) hk125 id id) hk130 (Nat.ne_of_lt (nt (nt ((IxIs.lt hx0).1) hz132) (Nat.le_refl _))) (Nat.ne_of_lt (nt (nt ((IxIs.lt hx0).2) hz132) (Nat.le_refl _)))) hk143 id id) hk148 (fx_ne h.nd (i := 3) (j := 1) (by decide) rfl rfl) (fx_ne h.nd (i := 4) (j := 1) (by decide) rfl rfl)) hk160 id id) hk165 id id)
        refine c_e rfl (e_call ca62 (args := [(Vp g.x.ib 0), (.string (k4 b t)), (Vi (st.last + 1))]) rfl (put_spec ok.x hf168 (k4 b t) (st.last + 1) hnk9 (by omega))) ?_
        rintro _ w169 ⟨rfl, hI170, hk171⟩
        have ka172 := (Kp.trans ka166 hk171 (fun _ _ e => (fun e => e.elim (fun e => (.inr (.inr (.inr (.inl e))))) (fun e => (.inr (.inr (.inr (.inr (.inl e))))))) e))
        have ks173 := (Kp.trans ks167 hk171 (fun _ _ e => e))
        refine ⟨ks173, ?_⟩
        refine o_done (hK157 _ _ (genC [(0, (Vp g.tb 0)), (1, (Vi b)), (4, (Vi due)), (10, (Vp w7.heap.size 0)), (13, (Vp w119.heap.size 0))] ⟨g151, g152, g153, g155, g156, trivial⟩ ?_))
        clear hK157; rintro E ⟨g174, g175, g176, g177, g178, -⟩
        refine seq fun K179 hK179 => ?_
        refine regD (fun k => k ∈ qfp g.q st.qs) (.take 0 (.take 1 (.take 2 (.take 3 (.take 4 (.take 5 (.take 6 (.one 7 .done)))))))) mixed (by kernel_rfl) fun w180 hh181 hk182 => ?_
        have ka183 := (Kp.then0 ka172 hk182)
        refine o_y rfl (y_move (v := (Vp g.tb 0)) g174) ?_
        refine o_y rfl (y_nil rfl) ?_
        refine o_y rfl (y_fld fo115_4 rfl) ?_
        refine o_y rfl (y_load (v := (Vp g.q.qb 0)) rfl (rd_sc sc111 (On.kp (hk182.get0 (hk171.get (hk165.get0 (hk160.get0 (hk148.get (hk143.get0 (hk130.get (hk125.get0 (hk121.get0 hb109)) (Nat.ne_of_lt (nt (nt (lt_of_get hb109) hk121.size) (Nat.le_refl _))))) (fx_ne h.nd (i := 0) (j := 1) (by decide) rfl rfl)))) (not_or.2 ⟨(fx_ne h.nd (i := 0) (j := 3) (by decide) rfl rfl), (fx_ne h.nd (i := 0) (j := 4) (by decide) rfl rfl)⟩))) (SesIs.fx_q h (List.mem_of_getElem? (i := 0) (rfl : g.fx[0]? = some g.tb)))) rfl)) ?_
        refine o_y rfl (y_fld fo59_0 g178) ?_
        refine o_y rfl (y_load (v := (Vi (st.last + 1))) rfl (rd_sc sc3 (On.kp (hk182.get0 (hk171.get (hk165.get0 (hk160.get0 (hk148.get (hk143.get0 hb129) (Nat.ne_of_gt (nt (nt (hm0.lt) hz132) (Nat.le_refl _)))))) (not_or.2 ⟨(Nat.ne_of_gt (nt (nt ((IxIs.lt hx0).1) hz132) (Nat.le_refl _))), (Nat.ne_of_gt (nt (nt ((IxIs.lt hx0).2) hz132) (Nat.le_refl _)))⟩))) (fun e => Nat.lt_irrefl _ (nt (SesIs.qlt h _ e) (nl hz132 (Nat.le_refl _))))) rfl)) ?_
        refine o_y rfl (y_move (v := (Vi due)) g176) ?_
        refine o_one ?_
        have hf184 := (QIs.k0 (QIs.kp (QIs.k0 (QIs.k0 (QIs.kp (QIs.k0 (QIs.kp (QIs.k0 (QIs.k0 (QIs.kp (QIs.k0 (QIs.k0 (QIs.k0 (QIs.k0 hq0 hk9) hk13) hk25) hk72) hk110 (fun b hb => (fun e => (SesIs.fx_q h (List.mem_of_getElem? (i := 0) (rfl : g.fx[0]? = some g.tb))) (e ▸ hb)))) hk121) hk125) hk130 (fun b hb => (fun e => (fun e => Nat.lt_irrefl _ (nt (SesIs.qlt h _ e) (nl hz132 (Nat.le_refl _)))) (e ▸ hb)))) hk143) hk148 (fun b hb => (fun e => (SesIs.fx_q h (List.mem_of_getElem? (i := 1) (rfl : g.fx[1]? = some g.mb))) (e ▸ hb)))) hk160) hk165) hk171 (fun b hb => (fun e => e.elim (fun e => (SesIs.fx_q h (List.mem_of_getElem? (i := 3) (rfl : g.fx[3]? = some g.x.ib))) (e ▸ hb)) (fun e => (SesIs.fx_q h (List.mem_of_getElem? (i := 4) (rfl : g.fx[4]? = some g.x.sb))) (e ▸ hb))))) hk182)
        refine c_e rfl (e_call ca64 (args := [(Vp g.q.qb 0), (Vi (st.last + 1)), (Vi due)]) rfl (qset_new hf184 (st.last + 1) due (by omega) (by omega) (by rw [qlen h]; have h9 := ok.mx; omega) (qnew_ne h hls))) ?_
        rintro _ w185 ⟨rfl, q186, hN187, hp188⟩
        have ka190 := (Kp.trans ka183 (QNx.kp hN187) (fun _ _ e => (fun e => (.inr (.inr (.inr (.inr (.inr (.inl e))))))) e))
        have ks191 : Kp (fun k => k ∈ qfp g.q st.qs) w180 w185 := (Kp.trans (Kp.refl _ _) (QNx.kp hN187) (fun _ _ e => e))
        refine ⟨ks191, ?_⟩
        refine o_done (hK179 _ _ (genC [(0, (Vp g.tb 0)), (1, (Vi b)), (10, (Vp w7.heap.size 0)), (13, (Vp w119.heap.size 0))] ⟨g174, g175, g177, g178, trivial⟩ ?_))
        clear hK179; rintro E ⟨g192, g193, g194, g195, -⟩
        refine seq fun K196 hK196 => ?_
        refine seq fun K197 hK197 => ?_
        refine reg ?_
        refine s_y (y_move (v := (Vp g.tb 0)) g192) rfl ?_
        refine s_y (y_nil rfl) rfl ?_
        refine s_y (y_fld fo115_5 rfl) rfl ?_
        have hb198 := ((QNx.kp hN187).get (hk182.get0 (hk171.get (hk165.get0 (hk160.get0 (hk148.get (hk143.get0 (hk130.get (hk125.get0 (hk121.get0 hb109)) (Nat.ne_of_lt (nt (nt (lt_of_get hb109) hk121.size) (Nat.le_refl _))))) (fx_ne h.nd (i := 0) (j := 1) (by decide) rfl rfl)))) (not_or.2 ⟨(fx_ne h.nd (i := 0) (j := 3) (by decide) rfl rfl), (fx_ne h.nd (i := 0) (j := 4) (by decide) rfl rfl)⟩))) (SesIs.fx_q h (List.mem_of_getElem? (i := 0) (rfl : g.fx[0]? = some g.tb))))
        refine s_y (y_load (v := (.map (some g.om))) rfl (rd_sc sc113 (On.now hb198) rfl)) rfl ?_
        refine s_y (y_move (v := (Vi b)) g193) rfl ?_
        have hf199 := (((((((((((((((ho0.kp hk9 id).kp hk13 id).kp hk25 id).kp hk72 id).kp hk110 (fx_ne h.nd (i := 2) (j := 0) (by decide) rfl rfl)).kp hk121 id).kp hk125 id).kp hk130 (Nat.ne_of_lt (nt (nt (ho0.lt) hz132) (Nat.le_refl _)))).kp hk143 id).kp hk148 (fx_ne h.nd (i := 2) (j := 1) (by decide) rfl rfl)).kp hk160 id).kp hk165 id).kp hk171 (not_or.2 ⟨(fx_ne h.nd (i := 2) (j := 3) (by decide) rfl rfl), (fx_ne h.nd (i := 2) (j := 4) (by decide) rfl rfl)⟩)).kp hk182 id).kp (QNx.kp hN187) (SesIs.fx_q h (List.mem_of_getElem? (i := 2) (rfl : g.fx[2]? = some g.om))))
        refine s_y (y_lookup_some kf3 Tryd.underlying113 ze120 (MapOn.now hf199) rfl rfl (show inI b from inI_of (by omega) (by omega)) hag9) rfl ?_
        refine s_y (y_meq Tryd.underlying120 rfl rfl) rfl ?_
        refine s_nil (hK197 _ _ (genC [(0, (Vp g.tb 0)), (1, (Vi b)), (10, (Vp w7.heap.size 0)), (13, (Vp w119.heap.size 0)), (80, Vf)] ⟨g192, g193, g194, g195, rfl, trivial⟩ ?_))
        clear hK197; rintro E ⟨g200, g201, g202, g203, g204, -⟩
        refine cond_f g204 ?_
        refine skip (hK196 _ _ (genC [(0, (Vp g.tb 0)), (1, (Vi b)), (10, (Vp w7.heap.size 0)), (13, (Vp w119.heap.size 0))] ⟨g200, g201, g202, g203, trivial⟩ ?_))
        clear hK196; rintro E ⟨g205, g206, g207, g208, -⟩
        refine seq fun K209 hK209 => ?_
        refine regD (· = e9.2.1) (.take 0 (.take 1 (.take 2 (.take 3 (.take 4 (.take 5 (.take 6 (.take 7 (.one 8 .done))))))))) mixed (by kernel_rfl) fun w210 hh211 hk212 => ?_
        have ka213 := (Kp.then0 ka190 hk212)
        refine o_y rfl (y_move (v := (Vp g.tb 0)) g205) ?_
        refine o_y rfl (y_nil rfl) ?_
        refine o_y rfl (y_fld fo115_5 rfl) ?_
        refine o_y rfl (y_load (v := (.map (some g.om))) rfl (rd_sc sc113 (On.kp (hk212.get0 hb198) (Ne.symm (Ne.symm (SesIs.fx_in h (List.mem_of_getElem? (i := 0) (rfl : g.fx[0]? = some g.tb)) he9)))) rfl)) ?_
        refine o_y rfl (y_move (v := (Vi b)) g206) ?_
        refine o_y rfl (y_lookup_some kf3 Tryd.underlying113 ze120 (MapOn.kp (hf199.kp hk212 id) (show ¬ (· = e9.2.1) g.om from (Ne.symm (Ne.symm (SesIs.fx_in h (List.mem_of_getElem? (i := 2) (rfl : g.fx[2]? = some g.om)) he9))))) rfl rfl (show inI b from inI_of (by omega) (by omega)) hag9) ?_
        refine o_y rfl (y_fld fo59_0 g208) ?_
        refine o_y rfl (y_load (v := (Vi (st.last + 1))) rfl (rd_sc sc3 (On.kp (hk212.get0 ((QNx.kp hN187).get (hk182.get0 (hk171.get (hk165.get0 (hk160.get0 (hk148.get (hk143.get0 hb129) (Nat.ne_of_gt (nt (nt (hm0.lt) hz132) (Nat.le_refl _)))))) (not_or.2 ⟨(Nat.ne_of_gt (nt (nt ((IxIs.lt hx0).1) hz132) (Nat.le_refl _))), (Nat.ne_of_gt (nt (nt ((IxIs.lt hx0).2) hz132) (Nat.le_refl _)))⟩))) (fun e => Nat.lt_irrefl _ (nt (SesIs.qlt h _ e) (nl hz132 (Nat.le_refl _)))))) (Nat.ne_of_gt (nt (nt (hi9.lt) hz132) (Nat.le_refl _)))) rfl)) ?_
        refine o_one ?_
        have hf214 := ((((((((((((((((hi9.kp hk9 id).kp hk13 id).kp hk25 id).kp hk72 id).kp hk110 (Ne.symm (SesIs.fx_in h (List.mem_of_getElem? (i := 0) (rfl : g.fx[0]? = some g.tb)) he9))).kp hk121 id).kp hk125 id).kp hk130 (Nat.ne_of_lt (nt (nt (hi9.lt) hz132) (Nat.le_refl _)))).kp hk143 id).kp hk148 (Ne.symm (SesIs.fx_in h (List.mem_of_getElem? (i := 1) (rfl : g.fx[1]? = some g.mb)) he9))).kp hk160 id).kp hk165 id).kp hk171 (not_or.2 ⟨(Ne.symm (SesIs.fx_in h (List.mem_of_getElem? (i := 3) (rfl : g.fx[3]? = some g.x.ib)) he9)), (Ne.symm (SesIs.fx_in h (List.mem_of_getElem? (i := 4) (rfl : g.fx[4]? = some g.x.sb)) he9))⟩)).kp hk182 id).kp (QNx.kp hN187) (SesIs.in_q h he9)).kp hk212 id)
        refine c_e0 rfl (e_mapPut kf3 Tryd.underlying120 hf214 rfl rfl (v := true) rfl (show inI (st.last + 1) from inI_of (by omega) (by omega)) hin9) ?_
        rintro _ w215 ⟨hm216, hk217⟩
        have ka218 := (Kp.trans ka213 hk217 (fun _ _ e => (fun e => (.inr (.inr (.inr (.inr (.inr (.inr e))))))) e))
        have ks219 : Kp (· = e9.2.1) w210 w215 := (Kp.trans (Kp.refl _ _) hk217 (fun _ _ e => e))
        refine ⟨ks219, ?_⟩
        refine o_done (hK209 _ _ (genC [(10, (Vp w7.heap.size 0)), (13, (Vp w119.heap.size 0))] ⟨g207, g208, trivial⟩ ?_))
        clear hK209; rintro E ⟨g220, g221, -⟩
        refine seq fun K222 hK222 => ?_
        refine reg ?_
        have hb223 := (hk217.get (hk212.get0 ((QNx.kp hN187).get (hk182.get0 (hk171.get (hk165.get0 (hk160.get0 (hk148.get (hk143.get0 hb129) (Nat.ne_of_gt (nt (nt (hm0.lt) hz132) (Nat.le_refl _)))))) (not_or.2 ⟨(Nat.ne_of_gt (nt (nt ((IxIs.lt hx0).1) hz132) (Nat.le_refl _))), (Nat.ne_of_gt (nt (nt ((IxIs.lt hx0).2) hz132) (Nat.le_refl _)))⟩))) (fun e => Nat.lt_irrefl _ (nt (SesIs.qlt h _ e) (nl hz132 (Nat.le_refl _)))))) (Nat.ne_of_gt (nt (nt (hi9.lt) hz132) (Nat.le_refl _))))
        refine s_y (y_load (v := (sv (⟨st.last + 1, b, t, state, due⟩ : Session))) g221 (rd_agg (vs := [(Vi (st.last + 1)), (Vi b), (u8 t.addr.a), (u8 t.addr.b), (u8 t.addr.c), (u8 t.addr.d), (Vi (t.port)), (Vi state), (Vi due)]) ag59 (On.now hb223) (by kernel_rfl) rfl)) rfl ?_
        have hz224 := (nl (nl (nl hk25.size hk72.size) hk110.size) hk121.size)
        have hb225 := (hk217.get (hk212.get0 ((QNx.kp hN187).get (hk182.get0 (hk171.get (hk165.get0 (hk160.get0 (hk148.get (hk143.get0 (hk130.get (hk125.get0 (hk121.get0 (hk110.get (hk72.get0 (hk25.get0 hb12)) (Nat.ne_of_gt (nt (nt (lt_of_get hb0) hk9.size) (Nat.le_refl _)))))) (Nat.ne_of_lt (nt (nt (lt_of_get hb12) hz224) (Nat.le_refl _))))) (Nat.ne_of_gt (nt (nt (hm0.lt) hk9.size) (Nat.le_refl _)))))) (not_or.2 ⟨(Nat.ne_of_gt (nt (nt ((IxIs.lt hx0).1) hk9.size) (Nat.le_refl _))), (Nat.ne_of_gt (nt (nt ((IxIs.lt hx0).2) hk9.size) (Nat.le_refl _)))⟩))) (fun e => Nat.lt_irrefl _ (nt (SesIs.qlt h _ e) (nl hk9.size (Nat.le_refl _)))))) (Nat.ne_of_gt (nt (nt (hi9.lt) hk9.size) (Nat.le_refl _))))
        refine s_e0 (e_storeV (cs' := #[(Vi (st.last + 1)), (Vi b), (u8 t.addr.a), (u8 t.addr.b), (u8 t.addr.c), (u8 t.addr.d), (Vi (t.port)), (Vi state), (Vi due)]) [(Vi (st.last + 1)), (Vi b), (u8 t.addr.a), (u8 t.addr.b), (u8 t.addr.c), (u8 t.addr.d), (Vi (t.port)), (Vi state), (Vi due)] g220 (v := (sv (⟨st.last + 1, b, t, state, due⟩ : Session))) rfl rfl sz59 hb225 rfl rfl rfl) ?_
        rintro _ w226 ⟨hb227, hk228⟩
        have ka229 := (Kp.fresh ka218 hk228 fun _ e => nl (nl hk9.size (Nat.le_refl _)) (Nat.le_of_eq e.symm))
        refine s_y (y_assign (v := (Vi 0)) rfl) rfl ?_
        refine s_nil (hK222 _ _ (genC [(10, (Vp w7.heap.size 0)), (11, (Vi 0))] ⟨g220, rfl, trivial⟩ ?_))
        clear hK222; rintro E ⟨g230, g231, -⟩
        refine ret (hret _ _ [(sv (⟨st.last + 1, b, t, state, due⟩ : Session)), (Vi 0)] ⟨⟨_, g230, (rd_agg (vs := [(Vi (st.last + 1)), (Vi b), (u8 t.addr.a), (u8 t.addr.b), (u8 t.addr.c), (u8 t.addr.d), (Vi (t.port)), (Vi state), (Vi due)]) ag59 (On.now hb227) (by kernel_rfl) rfl)⟩, g231, trivial⟩ ?_)
        have hb232 := (hk228.get (hk217.get (hk212.get0 hb198) (Ne.symm (Ne.symm (SesIs.fx_in h (List.mem_of_getElem? (i := 0) (rfl : g.fx[0]? = some g.tb)) he9)))) (Nat.ne_of_lt (nt (nt (lt_of_get hb0) hk9.size) (Nat.le_refl _))))
        have hf233 := ((((((((hm147.kp hk160 id).kp hk165 id).kp hk171 (not_or.2 ⟨(fx_ne h.nd (i := 1) (j := 3) (by decide) rfl rfl), (fx_ne h.nd (i := 1) (j := 4) (by decide) rfl rfl)⟩)).kp hk182 id).kp (QNx.kp hN187) (SesIs.fx_q h (List.mem_of_getElem? (i := 1) (rfl : g.fx[1]? = some g.mb)))).kp hk212 id).kp hk217 (Ne.symm (Ne.symm (SesIs.fx_in h (List.mem_of_getElem? (i := 1) (rfl : g.fx[1]? = some g.mb)) he9)))).kp hk228 (Nat.ne_of_lt (nt (nt (hm0.lt) hk9.size) (Nat.le_refl _))))
        have hb234 := (hk228.get hb223 (Nat.ne_of_gt (nt (nt (lt_of_get hb12) hz224) (Nat.le_refl _))))
        have hf235 := (IxIs.kp (IxIs.kp (IxIs.kp (IxIs.kp (IxIs.kp hI170 hk182 id id) (QNx.kp hN187) (SesIs.fx_q h (List.mem_of_getElem? (i := 3) (rfl : g.fx[3]? = some g.x.ib))) (SesIs.fx_q h (List.mem_of_getElem? (i := 4) (rfl : g.fx[4]? = some g.x.sb)))) hk212 id id) hk217 (Ne.symm (Ne.symm (SesIs.fx_in h (List.mem_of_getElem? (i := 3) (rfl : g.fx[3]? = some g.x.ib)) he9))) (Ne.symm (Ne.symm (SesIs.fx_in h (List.mem_of_getElem? (i := 4) (rfl : g.fx[4]? = some g.x.sb)) he9)))) hk228 (Nat.ne_of_lt (nt (nt ((IxIs.lt hx0).1) hk9.size) (Nat.le_refl _))) (Nat.ne_of_lt (nt (nt ((IxIs.lt hx0).2) hk9.size) (Nat.le_refl _))))
        have hz236 := (nl (nl (nl (nl (nl (nl (nl (nl hz132 hk125.size) hk130.size) hk143.size) hk148.size) hk160.size) hk165.size) hk171.size) hk182.size)
        have hz237 := (nl (nl (nl (nl (nl (nl (nl (nl hz224 hk125.size) hk130.size) hk143.size) hk148.size) hk160.size) hk165.size) hk171.size) hk182.size)
        have hf238 := (QIs.kp (QIs.kp (QIs.k0 (QNx.is hN187) hk212) hk217 (fun b hb => (fun e => (fun e => (QNx.sub hN187 _ e).elim (SesIs.in_q h he9) (fun e => Nat.lt_irrefl _ (nt (nt (hi9.lt) hz236) e))) (e ▸ hb)))) hk228 (fun b hb => (fun e => (fun e => (QNx.sub hN187 _ e).elim (fun e => Nat.lt_irrefl _ (nt (SesIs.qlt h _ e) (nl hk9.size (Nat.le_refl _)))) (fun e => Nat.lt_irrefl _ (nt (nt (lt_of_get hb12) hz237) e))) (e ▸ hb))))
        have hf239 := (((hf199.kp hk212 id).kp hk217 (Ne.symm (Ne.symm (SesIs.fx_in h (List.mem_of_getElem? (i := 2) (rfl : g.fx[2]? = some g.om)) he9)))).kp hk228 (Nat.ne_of_lt (nt (nt (ho0.lt) hk9.size) (Nat.le_refl _))))
        have hf240 := (hm216.kp hk228 (Nat.ne_of_lt (nt (nt (hi9.lt) hk9.size) (Nat.le_refl _))))
        have hz241 := (nl (nl (nl (nl (nl hk143.size hk148.size) hk160.size) hk165.size) hk171.size) hk182.size)
        have hz242 := (nl (nl (nl (QNx.kp hN187).size hk212.size) hk217.size) hk228.size)
        have hz243 := (nl (nl hk212.size hk217.size) hk228.size)
        exact ⟨_, SesIs.add_some (ns := (⟨st.last + 1, b, t, state, due⟩ : Session)) (bx := w119.heap.size) h hno9 hf9 ka229 (nt (lt_of_get hb129) hz241) hz132 hz236 hz242 hz243 hb232 hf233 hb234 hf235 hf238 hN187 hp188 hf239 hf240, .inr (.inr ⟨⟨by omega, by omega⟩, Decidable.not_not.1 c90, ⟨_, rfl, rfl⟩, rfl⟩)⟩

theorem sadd_spec {g : SesG} {st : SesS} {w : World} (ok : SesOk g) (h : SesIs g st w)  (b : Int) (t : T4) (state due : Int) (hb : -9223372036854775808 ≤ b ∧ b ≤ 9223372036854775807) (ht : -9223372036854775808 ≤ t.port ∧ t.port ≤ 9223372036854775807) (hd9 : -9223372036854775808 ≤ due ∧ due ≤ 9223372036854775807) (hla : 0 ≤ st.last ∧ st.last ≤ 1000000) (hls : ∀ p ∈ st.l, p.1.id ≤ st.last) : Rets Tryd.prog 27 #[.pointer (some ⟨g.tb, 0, none⟩), .int .i64 b, t4 t, .int .i64 state, .int .i64 due] w fun v w' => ∃ st', SesNx g st w st' w' ∧ ((¬ (0 ≤ due ∧ due ≤ 4611686018427387904) ∧ st' = st ∧ v = .tuple #[sv zeroS, .int .i64 1]) ∨ ((0 ≤ due ∧ due ≤ 4611686018427387904) ∧ (if (lookS st.l b t).isSome then 5 else if g.max ≤ st.l.length then 6 else 0 : Int) ≠ 0 ∧ st' = st ∧ v = .tuple #[sv zeroS, .int .i64 (if (lookS st.l b t).isSome then 5 else if g.max ≤ st.l.length then 6 else 0 : Int)]) ∨ ((0 ≤ due ∧ due ≤ 4611686018427387904) ∧ (if (lookS st.l b t).isSome then 5 else if g.max ≤ st.l.length then 6 else 0 : Int) = 0 ∧ (∃ bx, st'.last = st.last + 1 ∧ st'.l = st.l ++ [((⟨st.last + 1, b, t, state, due⟩ : Session), bx)]) ∧ v = .tuple #[sv (⟨st.last + 1, b, t, state, due⟩ : Session), .int .i64 0])) := by
  cases hf : st.o.find? (fun e => decide (e.1 = b)) with
  | none => exact sadd_none ok h b t state due hb ht hd9 hla hls hf
  | some e => exact sadd_some ok h b t state due hb ht hd9 hla hls hf
end Go.Proofs.YtdcnblafepgheaaDoor
