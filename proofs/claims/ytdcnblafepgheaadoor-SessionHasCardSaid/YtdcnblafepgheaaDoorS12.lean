/-
  Written by a program (wip/walks).
-/
import Derived.Test.YtdcnblafepgheaaDoorS11
namespace Go.Proofs.YtdcnblafepgheaaDoor
open Go Go.V
set_option maxRecDepth 100000
def updS (l : List (Session × Nat)) (n : Int) (s d : Int) : List (Session × Nat) := l.map fun q => if q.1.id = n then (⟨q.1.id, q.1.binding, q.1.peer, s, d⟩, q.2) else q
def cutS (l : List (Session × Nat)) (n : Int) : List (Session × Nat) := l.filter fun q => !decide (q.1.id = n)
def Same (φ : Session × Nat → Session × Nat) : Prop := ∀ q, (φ q).1.id = q.1.id ∧ (φ q).1.binding = q.1.binding ∧ (φ q).1.peer = q.1.peer ∧ (φ q).2 = q.2
theorem same_upd (n s d : Int) : Same fun q => if q.1.id = n then (⟨q.1.id, q.1.binding, q.1.peer, s, d⟩, q.2) else q := fun q => by
  by_cases h : q.1.id = n
  · simp [h]
  · simp [h]
theorem keyM_map {φ : Session × Nat → Session × Nat} (h : Same φ) (l : List (Session × Nat)) : keyM (l.map φ) = keyM l := by
  funext k
  unfold keyM
  induction l with
  | nil => rfl
  | cons q l ih =>
    obtain ⟨h1, h2, h3, h4⟩ := h q
    rw [List.map_cons]
    by_cases c : k4 q.1.binding q.1.peer = k
    · rw [List.find?_cons_of_pos (by simp [h2, h3, c]), List.find?_cons_of_pos (by simp [c])]; simp [h1]
    · rw [List.find?_cons_of_neg (by simp [h2, h3, c]), List.find?_cons_of_neg (by simp [c])]; exact ih
theorem sidl_map {φ : Session × Nat → Session × Nat} (h : Same φ) (l : List (Session × Nat)) : sidl (l.map φ) = sidl l := by
  unfold sidl; rw [List.map_map]; exact List.map_congr_left fun q _ => by obtain ⟨h1, h2, h3, h4⟩ := h q; simp [h1, h4]
theorem boxes_map {φ : Session × Nat → Session × Nat} (h : Same φ) (l : List (Session × Nat)) : (l.map φ).map (·.2) = l.map (·.2) := by
  rw [List.map_map]; exact List.map_congr_left fun q _ => (h q).2.2.2
theorem of_map {φ : Session × Nat → Session × Nat} (h : Same φ) (l : List (Session × Nat)) (b : Int) : ((l.map φ).filter fun p => decide (p.1.binding = b)).map (·.1.id) = (l.filter fun p => decide (p.1.binding = b)).map (·.1.id) := by
  induction l with
  | nil => rfl
  | cons q l ih =>
    obtain ⟨h1, h2, h3, h4⟩ := h q
    rw [List.map_cons]
    by_cases c : q.1.binding = b
    · rw [List.filter_cons_of_pos (by simp [h2, c]), List.filter_cons_of_pos (by simp [c]), List.map_cons, List.map_cons, ih, h1]
    · rw [List.filter_cons_of_neg (by simp [h2, c]), List.filter_cons_of_neg (by simp [c]), ih]
section
variable {g : SesG} {st : SesS} {w : World}
theorem SesIs.same (h : SesIs g st w) {p p' : Session × Nat} (hp : p ∈ st.l) (hp' : p' ∈ st.l) (e : p'.1.id = p.1.id) : p' = p := by
  have hn := h.ids
  generalize st.l = l at hn hp hp'
  induction l with
  | nil => cases hp
  | cons y l ih =>
    rw [List.map_cons, List.nodup_cons] at hn
    rcases List.mem_cons.1 hp with e1 | e1 <;> rcases List.mem_cons.1 hp' with e2 | e2
    · rw [e1, e2]
    · exact absurd (List.mem_map.2 ⟨p', e2, by rw [e, e1]⟩) hn.1
    · exact absurd (List.mem_map.2 ⟨p, e1, by rw [← e, e2]⟩) hn.1
    · exact ih hn.2 e1 e2
theorem SesIs.qids (h : SesIs g st w) : (st.qs.l.map (·.id)).Nodup := by
  have := (h.due.map (·.id)).nodup_iff.2 (by rw [List.map_map]; exact h.ids)
  exact this
theorem qset_old {w : World} {q : QG} {qs : QS} (h : QIs q qs w) (ky due : Int) (hid : -9223372036854775808 ≤ ky ∧ ky ≤ 9223372036854775807) (hd : 0 ≤ due ∧ due ≤ 4611686018427387904) (hc : qs.l.length ≤ 1000000) (hn : ∃ x ∈ qs.l, x.id = ky) :
    Rets Tryd.prog 64 #[.pointer (some ⟨q.qb, 0, none⟩), .int .i64 ky, .int .i64 due] w fun v w' => v = .int .i64 0 ∧ ∃ q', QNx q qs w q' w' ∧ q'.l.Perm (qs.l.map fun x => if x.id = ky then ⟨ky, due⟩ else x) :=
  (qset_spec h ky due hid (by omega) hc).mono fun v w' h9 => by
    rcases h9 with ⟨h1, _⟩ | ⟨_, h1, q', h2, h3⟩
    · exact absurd hd h1
    · refine ⟨h1, q', h2, h3.elim (fun h4 => ?_) fun ⟨i, h4, h5, h6⟩ => ?_⟩
      · obtain ⟨x, hx, e⟩ := hn
        obtain ⟨i, hi, e2⟩ := List.getElem_of_mem hx
        have e3 : ix qs.l i = x := ix_some (by rw [List.getElem?_eq_getElem hi, e2])
        have := h.pos.1 i hi
        rw [e3, e, h4.1] at this; cases this
      · refine h6.trans (List.Perm.of_eq (ix_ext (by simp) fun k hk => ?_))
        have hk' : k < qs.l.length := by simpa using hk
        rw [ix_set _ _ _ _ h4]
        have e1 : ix (qs.l.map fun x => if x.id = ky then ⟨ky, due⟩ else x) k = if (ix qs.l k).id = ky then ⟨ky, due⟩ else ix qs.l k := ix_some (by rw [List.getElem?_map, some_ix hk']; rfl)
        rw [e1]
        by_cases e2 : k = i
        · rw [if_pos e2, e2, if_pos h5]
        · rw [if_neg e2, if_neg fun e3 => e2 (h.pos.inj hk' h4 (e3.trans h5.symm))]
theorem perm_cut {l l' : List Thing} {x : Thing} (hn : (l.map (·.id)).Nodup) (h : (l' ++ [x]).Perm l) : l'.Perm (l.filter fun y => !decide (y.id = x.id)) := by
  have h1 := h.filter fun y => !decide (y.id = x.id)
  rw [List.filter_append, List.filter_cons_of_neg (by simp), List.filter_nil, List.append_nil] at h1
  have hn2 : ((l' ++ [x]).map (·.id)).Nodup := (h.map _).nodup_iff.2 hn
  rw [List.map_append, List.nodup_append] at hn2
  rw [List.filter_eq_self.2 fun y hy => ?_] at h1
  · exact h1
  · simp; exact hn2.2.2 y.id (List.mem_map.2 ⟨y, hy, rfl⟩) x.id (by simp)
theorem qdrop_old {w : World} {q : QG} {qs : QS} (h : QIs q qs w) (ky : Int) (hid : -9223372036854775808 ≤ ky ∧ ky ≤ 9223372036854775807) (hu : (qs.l.map (·.id)).Nodup) (hn : ∃ x ∈ qs.l, x.id = ky) :
    Rets Tryd.prog 66 #[.pointer (some ⟨q.qb, 0, none⟩), .int .i64 ky] w fun v w' => v = .bool true ∧ ∃ q', QNx q qs w q' w' ∧ q'.l.Perm (qs.l.filter fun x => !decide (x.id = ky)) :=
  (qdrop_spec h ky hid).mono fun v w' h9 => by
    rcases h9 with ⟨h1, _⟩ | ⟨x, q', h1, h2, h3, h4, h5⟩
    · obtain ⟨x, hx, e⟩ := hn
      obtain ⟨i, hi, e2⟩ := List.getElem_of_mem hx
      have e3 : ix qs.l i = x := ix_some (by rw [List.getElem?_eq_getElem hi, e2])
      have := h.pos.1 i hi
      rw [e3, e, h1] at this; cases this
    · subst h2; exact ⟨h3, q', h5, perm_cut hu h4⟩
theorem qmem (h : SesIs g st w) {p : Session × Nat} (hp : p ∈ st.l) : ∃ x ∈ st.qs.l, x.id = p.1.id := ⟨⟨p.1.id, p.1.due⟩, h.due.mem_iff.2 (List.mem_map.2 ⟨p, hp, rfl⟩), rfl⟩
theorem SesIs.set (h : SesIs g st w) {w' w3 w7 : World} {p : Session × Nat} (hp : p ∈ st.l) {s d : Int} {q' : QS} (kp : Kp (fun k => k = p.2 ∨ k ∈ qfp g.q st.qs) w w') (h3 : w.heap.size ≤ w3.heap.size) (h4 : w3.heap.size ≤ w'.heap.size) (h7 : w7.heap.size ≤ w'.heap.size)
    (box : Blk w' p.2 (⟨p.1.id, p.1.binding, p.1.peer, s, d⟩ : Session).cs.toArray 59) (q : QIs g.q q' w') (hN : QNx g.q st.qs w3 q' w7) (hq : q'.l.Perm (st.qs.l.map fun x => if x.id = p.1.id then ⟨p.1.id, d⟩ else x)) :
    SesNx g st w ⟨st.last, updS st.l p.1.id s d, q', st.o⟩ w' := by
  have hF : ∀ b ∈ g.fx, ¬ (b = p.2 ∨ b ∈ qfp g.q st.qs) := fun b hb e => e.elim (h.fx_box hb hp) (h.fx_q hb)
  have hx := hF
  simp only [SesG.fx, List.mem_cons, List.not_mem_nil, or_false, forall_eq_or_imp, forall_eq] at hx
  obtain ⟨f1, f2, f3, f4, f5⟩ := hx
  have hs := same_upd p.1.id s d
  unfold updS
  refine h.nx (n1 := w3.heap.size) (n2 := w'.heap.size) h3 h4 (kp.mono fun b _ e => e.elim (fun e => e ▸ sfp_box hp) sfp_q) (kp.get h.blk f1) (by rw [sidl_map hs]; exact h.map.kp kp f2) (fun x hx => ?_) (by rw [keyM_map hs, List.length_map]; exact h.ix.kp kp f4 f5) q (h.omap.kp kp f3) (fun e he => (h.oin e he).kp kp fun e2 => e2.elim (fun e2 => h.box_in hp he e2.symm) (h.in_q he)) (fun b => by rw [of_map hs]; exact h.ofs b) h.one (hq.trans ?_) (by rw [boxes_map hs]; exact (nd4.1 h.nd).2.2.1) (nd4.1 h.nd).2.2.2.1 (fun b e => (hN.sub b e).imp id fun e2 => ⟨e2, Nat.lt_of_lt_of_le (hN.is.lt b e) h7⟩) (fun b e => .inl (by rw [boxes_map hs] at e; exact e)) fun b e => .inl e
  · obtain ⟨y, hy, rfl⟩ := List.mem_map.1 hx
    by_cases e : y.1.id = p.1.id
    · rw [if_pos e, h.same hp hy e]; exact box
    · rw [if_neg e]
      exact kp.get (h.box y hy) fun e2 => e2.elim (fun e2 => e (by rw [h.box_inj hp hy e2])) (h.box_q hy)
  · have := h.due.map fun x => if x.id = p.1.id then (⟨p.1.id, d⟩ : Thing) else x
    refine this.trans (List.Perm.of_eq ?_)
    rw [List.map_map, List.map_map]
    refine List.map_congr_left fun x _ => ?_
    simp only [Function.comp_apply]
    by_cases e : x.1.id = p.1.id
    · simp [e]
    · simp [e]
theorem cutS_len {l : List (Session × Nat)} (hn : (l.map (·.1.id)).Nodup) {q : Session × Nat} (hq : q ∈ l) : (cutS l q.1.id).length + 1 = l.length := by
  induction l with
  | nil => cases hq
  | cons x l ih =>
    rw [List.map_cons, List.nodup_cons] at hn
    unfold cutS at *
    rcases List.mem_cons.1 hq with e | hq
    · subst e
      have : l.filter (fun q' => !decide (q'.1.id = q.1.id)) = l := List.filter_eq_self.2 fun a ha => by
        have : a.1.id ≠ q.1.id := fun e => hn.1 (List.mem_map.2 ⟨a, ha, e⟩)
        simp [this]
      rw [List.filter_cons_of_neg (by simp), this]; rfl
    · have : x.1.id ≠ q.1.id := fun e => hn.1 (List.mem_map.2 ⟨q, hq, e.symm⟩)
      rw [List.filter_cons_of_pos (by simp [this]), List.length_cons, ih hn.2 hq]; rfl
theorem find_congr' {α : Type} {l : List α} {f f' : α → Bool} (h : ∀ a ∈ l, f a = f' a) : l.find? f = l.find? f' := by
  induction l with
  | nil => rfl
  | cons a l ih => rw [List.find?_cons, List.find?_cons, h a (by simp), ih fun b hb => h b (by simp [hb])]
theorem keyM_cut (h : SesIs g st w) {p : Session × Nat} (hp : p ∈ st.l) (hu : ∀ q ∈ st.l, q.1.binding = p.1.binding → q.1.peer = p.1.peer → q = p) : keyM (cutS st.l p.1.id) = fun k => if k = k4 p.1.binding p.1.peer then none else keyM st.l k := by
  funext k
  unfold keyM cutS
  rw [List.find?_filter]
  by_cases e : k = k4 p.1.binding p.1.peer
  · rw [if_pos e, List.find?_eq_none.2]
    · rfl
    · intro x hx hc
      simp only [Bool.not_eq_true', decide_eq_false_iff_not, decide_eq_true_eq] at hc
      obtain ⟨e1, e2⟩ := k4_inj.1 (hc.2.trans e)
      exact hc.1 (by rw [hu x hx e1 e2])
  · rw [if_neg e]
    congr 1
    refine find_congr' fun x hx => ?_
    by_cases h2 : k4 x.1.binding x.1.peer = k
    · have : x.1.id ≠ p.1.id := fun e2 => e (by rw [← h2, h.same hp hx e2])
      simp [this]
    · simp [h2]
theorem keyM_some (h : SesIs g st w) {p : Session × Nat} (hp : p ∈ st.l) (hu : ∀ q ∈ st.l, q.1.binding = p.1.binding → q.1.peer = p.1.peer → q = p) : keyM st.l (k4 p.1.binding p.1.peer) = some p.1.id := by
  have := h
  unfold keyM
  cases hf : st.l.find? fun x => decide (k4 x.1.binding x.1.peer = k4 p.1.binding p.1.peer) with
  | none => have := List.find?_eq_none.1 hf p hp; simp at this
  | some x =>
    have h1 := List.find?_some hf; simp only [decide_eq_true_eq] at h1
    obtain ⟨e1, e2⟩ := k4_inj.1 h1
    rw [hu x (List.mem_of_find?_eq_some hf) e1 e2]; rfl
theorem inner_there (h : SesIs g st w) {p : Session × Nat} (hp : p ∈ st.l) : ∃ e, st.o.find? (fun e => decide (e.1 = p.1.binding)) = some e := by
  cases hf : st.o.find? (fun e => decide (e.1 = p.1.binding)) with
  | some e => exact ⟨e, rfl⟩
  | none =>
    have h1 := h.ofs p.1.binding
    unfold ofl at h1; rw [hf] at h1
    have h2 : p.1.id ∈ ([] : List Int) := h1.mem_iff.2 (List.mem_map.2 ⟨p, List.mem_filter.2 ⟨hp, by simp⟩, rfl⟩)
    cases h2
theorem adel_map {α β : Type} [DecidableEq α] (l : List (α × β)) (k : α) : (adel l k).map (·.1) = (l.map (·.1)).filter fun x => !decide (x = k) := by
  unfold adel; rw [List.filter_map]; rfl
theorem of_cut (l : List (Session × Nat)) (n b : Int) : ((cutS l n).filter fun p => decide (p.1.binding = b)).map (·.1.id) = (((l.filter fun p => decide (p.1.binding = b)).map (·.1.id)).filter fun x => !decide (x = n)) := by
  unfold cutS; rw [List.filter_map, List.filter_filter, List.filter_filter]; congr 1; exact List.filter_congr fun x _ => by simp [Bool.and_comm]
theorem adel_sidl (l : List (Session × Nat)) (n : Int) : adel (sidl l) n = sidl (cutS l n) := by unfold adel sidl cutS; rw [List.filter_map]; rfl
theorem SesIs.drop (h : SesIs g st w) {w' w3 w7 : World} {p : Session × Nat} (hp : p ∈ st.l) (hu : ∀ q ∈ st.l, q.1.binding = p.1.binding → q.1.peer = p.1.peer → q = p) {F : Nat → Prop} (kp : Kp F w w') (hF : ∀ b, F b → b ∈ sfp g st) (hFb : ∀ p ∈ st.l, ¬ F p.2) {q' : QS} {o' : List (Int × Nat × List (Int × Bool))}
    (h3 : w.heap.size ≤ w3.heap.size) (h4 : w3.heap.size ≤ w'.heap.size) (h7 : w7.heap.size ≤ w'.heap.size) (blk : Blk w' g.tb #[.int .i64 g.max, .int .i64 st.last, .map (some g.mb), .pointer (some ⟨g.x.ib, 0, none⟩), .pointer (some ⟨g.q.qb, 0, none⟩), .map (some g.om)] 115)
    (map : MapAt (fun n : Int => .int .i64 n) (fun p : Nat => Value.pointer (some ⟨p, 0, none⟩)) inI w' g.mb (adel (sidl st.l) p.1.id)) (ix : IxIs g.x (fun k => if k = k4 p.1.binding p.1.peer then none else keyM st.l k) (st.l.length - 1) w')
    (q : QIs g.q q' w') (hN : QNx g.q st.qs w3 q' w7) (hq : q'.l.Perm (st.qs.l.filter fun x => !decide (x.id = p.1.id)))
    (omap : MapAt (fun n : Int => .int .i64 n) (fun b : Nat => Value.map (some b)) inI w' g.om (oml o')) (oin : ∀ e ∈ o', BMap w' e.2.1 e.2.2)
    (ofs : ∀ c, ofl o' c = if c = p.1.binding then (ofl st.o c).filter (fun x => !decide (x = p.1.id)) else ofl st.o c) (one : ∀ e ∈ o', e.2.2 ≠ []) (ho : (o'.map (·.2.1)).Sublist (st.o.map (·.2.1))) :
    SesNx g st w ⟨st.last, cutS st.l p.1.id, q', o'⟩ w' := by
  have hl := cutS_len h.ids hp
  have hl2 : (cutS st.l p.1.id).length = st.l.length - 1 := by omega
  have hsub : (cutS st.l p.1.id).Sublist st.l := List.filter_sublist
  refine h.nx (n1 := w3.heap.size) (n2 := w'.heap.size) h3 h4 (kp.mono fun b _ e => hF b e) blk (by rw [← adel_sidl]; exact map) (fun x hx => kp.get (h.box x (hsub.subset hx)) (hFb x (hsub.subset hx))) (by rw [keyM_cut h hp hu, hl2]; exact ix) q omap oin (fun c => ?_) one ?_ ((nd4.1 h.nd).2.2.1.sublist (hsub.map _)) ((nd4.1 h.nd).2.2.2.1.sublist ho) (fun b e => (hN.sub b e).imp id fun e2 => ⟨e2, Nat.lt_of_lt_of_le (hN.is.lt b e) h7⟩) (fun b e => .inl ((hsub.map _).subset e)) fun b e => .inl (ho.subset e)
  · rw [ofs c, of_cut]
    by_cases e : c = p.1.binding
    · rw [if_pos e]; exact (h.ofs c).filter _
    · rw [if_neg e, List.filter_eq_self.2 fun x hx => ?_]
      · exact h.ofs c
      · obtain ⟨y, hy, rfl⟩ := List.mem_map.1 hx
        obtain ⟨h1, h2⟩ := List.mem_filter.1 hy
        simp only [decide_eq_true_eq] at h2
        simp only [Bool.not_eq_true', decide_eq_false_iff_not]
        intro e2; exact e (by rw [← h2, h.same hp h1 e2])
  · refine hq.trans ((h.due.filter _).trans (List.Perm.of_eq ?_))
    unfold cutS; rw [List.filter_map]; rfl
theorem SesIs.drop_stay (h : SesIs g st w) {w' w3 w7 : World} {p : Session × Nat} (hp : p ∈ st.l) (hu : ∀ q ∈ st.l, q.1.binding = p.1.binding → q.1.peer = p.1.peer → q = p) {e9 : Int × Nat × List (Int × Bool)} (hf : st.o.find? (fun e => decide (e.1 = p.1.binding)) = some e9) (kp : Kp (FI g st e9.2.1) w w') {q' : QS}
    (h3 : w.heap.size ≤ w3.heap.size) (h4 : w3.heap.size ≤ w'.heap.size) (h7 : w7.heap.size ≤ w'.heap.size) (blk : Blk w' g.tb #[.int .i64 g.max, .int .i64 st.last, .map (some g.mb), .pointer (some ⟨g.x.ib, 0, none⟩), .pointer (some ⟨g.q.qb, 0, none⟩), .map (some g.om)] 115)
    (map : MapAt (fun n : Int => .int .i64 n) (fun p : Nat => Value.pointer (some ⟨p, 0, none⟩)) inI w' g.mb (adel (sidl st.l) p.1.id)) (ix : IxIs g.x (fun k => if k = k4 p.1.binding p.1.peer then none else keyM st.l k) (st.l.length - 1) w')
    (q : QIs g.q q' w') (hN : QNx g.q st.qs w3 q' w7) (hq : q'.l.Perm (st.qs.l.filter fun x => !decide (x.id = p.1.id)))
    (omap : MapAt (fun n : Int => .int .i64 n) (fun b : Nat => Value.map (some b)) inI w' g.om (oml st.o)) (hin : BMap w' e9.2.1 (adel e9.2.2 p.1.id)) (hne : adel e9.2.2 p.1.id ≠ []) :
    SesNx g st w ⟨st.last, cutS st.l p.1.id, q', upo st.o p.1.binding fun l => adel l p.1.id⟩ w' := by
  have he9 := List.mem_of_find?_eq_some hf
  have hk9 := find_key hf
  refine h.drop hp hu kp (fun _ => FI_sfp (sfp_in he9)) (fun p hp => FI_box h hp he9) h3 h4 h7 blk map ix q hN hq (by rw [oml_upo]; exact omap) (fun e he => ?_) (fun c => ?_) (fun e he => ?_) (by rw [inl_upo]; exact List.Sublist.refl _)
  · obtain ⟨y, hy, rfl⟩ := List.mem_map.1 he
    by_cases e : y.1 = p.1.binding
    · rw [if_pos e, find_of_mem h hf y hy e]; exact hin
    · rw [if_neg e]; exact (h.oin y hy).kp kp (FI_in h he9 hy fun e2 => e (e2 ▸ hk9))
  · rw [ofl_upo _ _ hf]
    by_cases e : c = p.1.binding
    · subst e; rw [if_pos rfl, if_pos rfl, adel_map]; unfold ofl; rw [hf]
    · rw [if_neg e, if_neg e]
  · obtain ⟨y, hy, rfl⟩ := List.mem_map.1 he
    by_cases e : y.1 = p.1.binding
    · rw [if_pos e, find_of_mem h hf y hy e]; exact hne
    · rw [if_neg e]; exact h.one y hy
theorem find_del {o : List (Int × Nat × List (Int × Bool))} (b c : Int) : (o.filter fun e => !decide (e.1 = b)).find? (fun e => decide (e.1 = c)) = if c = b then none else o.find? (fun e => decide (e.1 = c)) := by
  rw [List.find?_filter]
  by_cases e : c = b
  · rw [if_pos e, List.find?_eq_none.2]; intro x _ hc; simp at hc; exact hc.1 (hc.2.trans e)
  · rw [if_neg e]; exact find_congr' fun x _ => by by_cases h : x.1 = c <;> simp [h, e]
theorem SesIs.drop_gone (h : SesIs g st w) {w' w3 w7 : World} {p : Session × Nat} (hp : p ∈ st.l) (hu : ∀ q ∈ st.l, q.1.binding = p.1.binding → q.1.peer = p.1.peer → q = p) {e9 : Int × Nat × List (Int × Bool)} (hf : st.o.find? (fun e => decide (e.1 = p.1.binding)) = some e9) (kp : Kp (FI g st e9.2.1) w w') {q' : QS}
    (h3 : w.heap.size ≤ w3.heap.size) (h4 : w3.heap.size ≤ w'.heap.size) (h7 : w7.heap.size ≤ w'.heap.size) (blk : Blk w' g.tb #[.int .i64 g.max, .int .i64 st.last, .map (some g.mb), .pointer (some ⟨g.x.ib, 0, none⟩), .pointer (some ⟨g.q.qb, 0, none⟩), .map (some g.om)] 115)
    (map : MapAt (fun n : Int => .int .i64 n) (fun p : Nat => Value.pointer (some ⟨p, 0, none⟩)) inI w' g.mb (adel (sidl st.l) p.1.id)) (ix : IxIs g.x (fun k => if k = k4 p.1.binding p.1.peer then none else keyM st.l k) (st.l.length - 1) w')
    (q : QIs g.q q' w') (hN : QNx g.q st.qs w3 q' w7) (hq : q'.l.Perm (st.qs.l.filter fun x => !decide (x.id = p.1.id)))
    (omap : MapAt (fun n : Int => .int .i64 n) (fun b : Nat => Value.map (some b)) inI w' g.om (adel (oml st.o) p.1.binding)) (hne : adel e9.2.2 p.1.id = []) :
    SesNx g st w ⟨st.last, cutS st.l p.1.id, q', st.o.filter fun e => !decide (e.1 = p.1.binding)⟩ w' := by
  have he9 := List.mem_of_find?_eq_some hf
  have hk9 := find_key hf
  have hsub : (st.o.filter fun e => !decide (e.1 = p.1.binding)).Sublist st.o := List.filter_sublist
  refine h.drop hp hu kp (fun _ => FI_sfp (sfp_in he9)) (fun p hp => FI_box h hp he9) h3 h4 h7 blk map ix q hN hq (by unfold adel oml at *; rw [List.filter_map] at omap; exact omap) (fun e he => ?_) (fun c => ?_) (fun e he => h.one e (hsub.subset he)) (hsub.map _)
  · obtain ⟨hy, e⟩ := List.mem_filter.1 he
    exact (h.oin _ hy).kp kp (FI_in h he9 hy fun e2 => by rw [e2] at e; simp [hk9] at e)
  · unfold ofl; rw [find_del]
    by_cases e : c = p.1.binding
    · subst e; rw [if_pos rfl, if_pos rfl, hf]; simp only; rw [← adel_map, hne]; rfl
    · rw [if_neg e, if_neg e]
end
theorem sset_none {g : SesG} {st : SesS} {w : World} (h : SesIs g st w) (n : Int) (hid : -9223372036854775808 ≤ n ∧ n ≤ 9223372036854775807) (hno : ∀ p ∈ st.l, p.1.id ≠ n) (state due : Int) (hd9 : -9223372036854775808 ≤ due ∧ due ≤ 9223372036854775807)  : Rets Tryd.prog 34 #[(.pointer (some ⟨g.tb, 0, none⟩)), (.int .i64 n), (.int .i64 state), (.int .i64 due)] w fun v w' => ((¬ (0 ≤ due ∧ due ≤ 4611686018427387904) ∧ v = .int .i64 1) ∨ ((0 ≤ due ∧ due ≤ 4611686018427387904) ∧ v = .int .i64 4)) ∧ K0 w w' := by
  refine enter Tryd.func34 rfl Tryd.ntmps34 rfl fun Q hret hend E hE => ?_
  have g1 : E 0 = (Vp g.tb 0) := hE 0
  have g2 : E 1 = (Vi n) := hE 1
  have g3 : E 2 = (Vi state) := hE 2
  have g4 : E 3 = (Vi due) := hE 3
  clear hE
  have hb0 := h.blk; have hm0 := h.map; have hT0 := h.tb; have hx0 := h.ix; have hq0 := h.q; have ho0 := h.omap
  have hag9 : aget (sidl st.l) n = none := aget_none.2 fun p hp e => by
    obtain ⟨q, hq, rfl⟩ := List.mem_map.1 hp; exact hno q hq e
  refine seq fun K5 hK5 => ?_
  refine reg ?_
  refine s_y (y_assign (v := (Vi 0)) rfl) rfl ?_
  refine s_nil (hK5 _ _ (genC [(0, (Vp g.tb 0)), (1, (Vi n)), (2, (Vi state)), (3, (Vi due))] ⟨g1, g2, g3, g4, trivial⟩ ?_))
  clear hK5; rintro E ⟨g6, g7, g8, g9, -⟩
  refine seq fun K10 hK10 => ?_
  refine block ?_
  refine seq fun K11 hK11 => ?_
  refine reg ?_
  refine s_y (y_move (v := (Vp g.tb 0)) g6) rfl ?_
  refine s_e (e_call ca61 (args := [(Vp g.tb 0)]) rfl (snone_spec h)) rfl ?_
  rintro _ w12 ⟨rfl, hk13⟩
  have ka14 : Kp (fun _ => False) w w12 := (Kp.then0 (Kp.refl _ _) hk13)
  refine s_y (y_assign (v := Vf) rfl) rfl ?_
  refine s_nil (hK11 _ _ (genC [(0, (Vp g.tb 0)), (1, (Vi n)), (2, (Vi state)), (3, (Vi due)), (11, Vf)] ⟨g6, g7, g8, g9, rfl, trivial⟩ ?_))
  clear hK11; rintro E ⟨g15, g16, g17, g18, g19, -⟩
  refine cond_f g19 ?_
  refine seq fun K20 hK20 => ?_
  refine reg ?_
  refine s_y (y_move (v := (Vi due)) g18) rfl ?_
  refine s_y (y_lss rfl rfl) rfl ?_
  refine s_y (y_move (v := (.bool (decide ((due : Int) < 0)))) rfl) rfl ?_
  by_cases c21 : (due : Int) < 0
  · refine s_no (.no rfl (c := true) (congrArg Value.bool (decide_eq_true c21)) rfl) rfl ?_
    refine s_no (.no rfl (c := true) (congrArg Value.bool (decide_eq_true c21)) rfl) rfl ?_
    refine s_y (y_pick_t (congrArg Value.bool (decide_eq_true c21)) (v := Vt) rfl) rfl ?_
    refine s_y (y_assign (v := Vt) rfl) rfl ?_
    refine s_nil (hK20 _ _ (genC [(0, (Vp g.tb 0)), (1, (Vi n)), (2, (Vi state)), (3, (Vi due)), (14, Vt)] ⟨g15, g16, g17, g18, rfl, trivial⟩ ?_))
    clear hK20; rintro E ⟨g22, g23, g24, g25, g26, -⟩
    refine cond_t g26 ?_
    refine seq fun K27 hK27 => ?_
    refine reg ?_
    refine s_y (y_assign (v := (Vi 1)) rfl) rfl ?_
    refine s_nil (hK27 _ _ (genC [(8, (Vi 1))] ⟨rfl, trivial⟩ ?_))
    clear hK27; rintro E ⟨g28, -⟩
    refine ret (hret _ _ [(Vi 1)] ⟨g28, trivial⟩ ?_)
    exact ⟨.inl ⟨by omega, rfl⟩, ka14⟩
  · refine s_gy (.yes rfl (congrArg Value.bool (decide_eq_false c21))) (y_move (v := (Vi due)) g18) rfl ?_
    refine s_gy (.yes rfl (congrArg Value.bool (decide_eq_false c21))) (y_gtr rfl rfl) rfl ?_
    refine s_y (y_pick_f (congrArg Value.bool (decide_eq_false c21)) (v := (.bool (decide ((4611686018427387904 : Int) < due)))) rfl) rfl ?_
    refine s_y (y_assign (v := (.bool (decide ((4611686018427387904 : Int) < due)))) rfl) rfl ?_
    refine s_nil (hK20 _ _ (genC [(0, (Vp g.tb 0)), (1, (Vi n)), (2, (Vi state)), (3, (Vi due)), (14, (.bool (decide ((4611686018427387904 : Int) < due))))] ⟨g15, g16, g17, g18, rfl, trivial⟩ ?_))
    clear hK20; rintro E ⟨g29, g30, g31, g32, g33, -⟩
    refine cond_d g33 (fun c34 => ?_) (fun c34 => ?_)
    · refine seq fun K35 hK35 => ?_
      refine reg ?_
      refine s_y (y_assign (v := (Vi 1)) rfl) rfl ?_
      refine s_nil (hK35 _ _ (genC [(8, (Vi 1))] ⟨rfl, trivial⟩ ?_))
      clear hK35; rintro E ⟨g36, -⟩
      refine ret (hret _ _ [(Vi 1)] ⟨g36, trivial⟩ ?_)
      exact ⟨.inl ⟨by omega, rfl⟩, ka14⟩
    · refine skip (hK10 _ _ (genC [(0, (Vp g.tb 0)), (1, (Vi n)), (2, (Vi state)), (3, (Vi due))] ⟨g29, g30, g31, g32, trivial⟩ ?_))
      clear hK10; rintro E ⟨g37, g38, g39, g40, -⟩
      refine seq fun K41 hK41 => ?_
      refine reg ?_
      refine s_y (y_move (v := (Vp g.tb 0)) g37) rfl ?_
      refine s_y (y_nil rfl) rfl ?_
      refine s_y (y_fld fo115_2 rfl) rfl ?_
      have hb42 := (hk13.get0 hb0)
      refine s_y (y_load (v := (.map (some g.mb))) rfl (rd_sc sc110 (On.now hb42) rfl)) rfl ?_
      refine s_y (y_move (v := (Vi n)) g38) rfl ?_
      have hf43 := (hm0.kp hk13 id)
      refine s_y (y_lookup2_none kf3 Tryd.underlying110 ze116 (MapOn.now hf43) rfl rfl (show inI n from inI_of (by omega) (by omega)) hag9) rfl ?_
      refine s_y (y_move (v := (.tuple #[(.pointer none), Vf])) rfl) rfl ?_
      refine s_y (y_ext rfl (v := (.pointer none)) rfl) rfl ?_
      refine s_y (y_ext rfl (v := Vf) rfl) rfl ?_
      refine s_y (y_assign (v := (.pointer none)) rfl) rfl ?_
      refine s_y (y_assign (v := Vf) rfl) rfl ?_
      refine s_nil (hK41 _ _ (genC [(0, (Vp g.tb 0)), (1, (Vi n)), (2, (Vi state)), (3, (Vi due)), (9, (.pointer none)), (10, Vf)] ⟨g37, g38, g39, g40, rfl, rfl, trivial⟩ ?_))
      clear hK41; rintro E ⟨g44, g45, g46, g47, g48, g49, -⟩
      refine seq fun K50 hK50 => ?_
      refine seq fun K51 hK51 => ?_
      refine reg ?_
      refine s_y (y_move (v := Vf) g49) rfl ?_
      refine s_y (y_not rfl) rfl ?_
      refine s_nil (hK51 _ _ (genC [(0, (Vp g.tb 0)), (1, (Vi n)), (2, (Vi state)), (3, (Vi due)), (9, (.pointer none)), (31, Vt)] ⟨g44, g45, g46, g47, g48, rfl, trivial⟩ ?_))
      clear hK51; rintro E ⟨g52, g53, g54, g55, g56, g57, -⟩
      refine cond_t g57 ?_
      refine seq fun K58 hK58 => ?_
      refine reg ?_
      refine s_y (y_assign (v := (Vi 4)) rfl) rfl ?_
      refine s_nil (hK58 _ _ (genC [(8, (Vi 4))] ⟨rfl, trivial⟩ ?_))
      clear hK58; rintro E ⟨g59, -⟩
      refine ret (hret _ _ [(Vi 4)] ⟨g59, trivial⟩ ?_)
      exact ⟨.inr ⟨by omega, rfl⟩, ka14⟩

theorem sset_some {g : SesG} {st : SesS} {w : World} (h : SesIs g st w) {p : Session × Nat} (hp : p ∈ st.l) (hc : st.l.length ≤ 1000000) (state due : Int) (hd9 : -9223372036854775808 ≤ due ∧ due ≤ 9223372036854775807)  : Rets Tryd.prog 34 #[(.pointer (some ⟨g.tb, 0, none⟩)), (.int .i64 (p.1.id)), (.int .i64 state), (.int .i64 due)] w fun v w' => ∃ st', SesNx g st w st' w' ∧ ((¬ (0 ≤ due ∧ due ≤ 4611686018427387904) ∧ v = .int .i64 1 ∧ st' = st) ∨ ((0 ≤ due ∧ due ≤ 4611686018427387904) ∧ v = .int .i64 0 ∧ st'.last = st.last ∧ st'.l = updS st.l p.1.id state due)) := by
  refine enter Tryd.func34 rfl Tryd.ntmps34 rfl fun Q hret hend E hE => ?_
  have g1 : E 0 = (Vp g.tb 0) := hE 0
  have g2 : E 1 = (Vi (p.1.id)) := hE 1
  have g3 : E 2 = (Vi state) := hE 2
  have g4 : E 3 = (Vi due) := hE 3
  clear hE
  have hb0 := h.blk; have hm0 := h.map; have hT0 := h.tb; have hx0 := h.ix; have hq0 := h.q; have ho0 := h.omap
  have hag9 := h.aget hp; have hgd9 := h.good hp; unfold inI at hgd9; have hbx9 := h.box p hp
  refine seq fun K5 hK5 => ?_
  refine reg ?_
  refine s_y (y_assign (v := (Vi 0)) rfl) rfl ?_
  refine s_nil (hK5 _ _ (genC [(0, (Vp g.tb 0)), (1, (Vi (p.1.id))), (2, (Vi state)), (3, (Vi due))] ⟨g1, g2, g3, g4, trivial⟩ ?_))
  clear hK5; rintro E ⟨g6, g7, g8, g9, -⟩
  refine seq fun K10 hK10 => ?_
  refine block ?_
  refine seq fun K11 hK11 => ?_
  refine reg ?_
  refine s_y (y_move (v := (Vp g.tb 0)) g6) rfl ?_
  refine s_e (e_call ca61 (args := [(Vp g.tb 0)]) rfl (snone_spec h)) rfl ?_
  rintro _ w12 ⟨rfl, hk13⟩
  have ka14 : Kp (fun k => k = p.2 ∨ k ∈ qfp g.q st.qs) w w12 := (Kp.then0 (Kp.refl _ _) hk13)
  refine s_y (y_assign (v := Vf) rfl) rfl ?_
  refine s_nil (hK11 _ _ (genC [(0, (Vp g.tb 0)), (1, (Vi (p.1.id))), (2, (Vi state)), (3, (Vi due)), (11, Vf)] ⟨g6, g7, g8, g9, rfl, trivial⟩ ?_))
  clear hK11; rintro E ⟨g15, g16, g17, g18, g19, -⟩
  refine cond_f g19 ?_
  refine seq fun K20 hK20 => ?_
  refine reg ?_
  refine s_y (y_move (v := (Vi due)) g18) rfl ?_
  refine s_y (y_lss rfl rfl) rfl ?_
  refine s_y (y_move (v := (.bool (decide ((due : Int) < 0)))) rfl) rfl ?_
  by_cases c21 : (due : Int) < 0
  · refine s_no (.no rfl (c := true) (congrArg Value.bool (decide_eq_true c21)) rfl) rfl ?_
    refine s_no (.no rfl (c := true) (congrArg Value.bool (decide_eq_true c21)) rfl) rfl ?_
    refine s_y (y_pick_t (congrArg Value.bool (decide_eq_true c21)) (v := Vt) rfl) rfl ?_
    refine s_y (y_assign (v := Vt) rfl) rfl ?_
    refine s_nil (hK20 _ _ (genC [(0, (Vp g.tb 0)), (1, (Vi (p.1.id))), (2, (Vi state)), (3, (Vi due)), (14, Vt)] ⟨g15, g16, g17, g18, rfl, trivial⟩ ?_))
    clear hK20; rintro E ⟨g22, g23, g24, g25, g26, -⟩
    refine cond_t g26 ?_
    refine seq fun K27 hK27 => ?_
    refine reg ?_
    refine s_y (y_assign (v := (Vi 1)) rfl) rfl ?_
    refine s_nil (hK27 _ _ (genC [(8, (Vi 1))] ⟨rfl, trivial⟩ ?_))
    clear hK27; rintro E ⟨g28, -⟩
    refine ret (hret _ _ [(Vi 1)] ⟨g28, trivial⟩ ?_)
    have hf29 := (SesIs.k0 h hk13)
    exact ⟨st, SesNx.same ka14 hf29 (fun b e => e.elim (fun e => e ▸ sfp_box hp) sfp_q), .inl ⟨by omega, rfl, rfl⟩⟩
  · refine s_gy (.yes rfl (congrArg Value.bool (decide_eq_false c21))) (y_move (v := (Vi due)) g18) rfl ?_
    refine s_gy (.yes rfl (congrArg Value.bool (decide_eq_false c21))) (y_gtr rfl rfl) rfl ?_
    refine s_y (y_pick_f (congrArg Value.bool (decide_eq_false c21)) (v := (.bool (decide ((4611686018427387904 : Int) < due)))) rfl) rfl ?_
    refine s_y (y_assign (v := (.bool (decide ((4611686018427387904 : Int) < due)))) rfl) rfl ?_
    refine s_nil (hK20 _ _ (genC [(0, (Vp g.tb 0)), (1, (Vi (p.1.id))), (2, (Vi state)), (3, (Vi due)), (14, (.bool (decide ((4611686018427387904 : Int) < due))))] ⟨g15, g16, g17, g18, rfl, trivial⟩ ?_))
    clear hK20; rintro E ⟨g30, g31, g32, g33, g34, -⟩
    refine cond_d g34 (fun c35 => ?_) (fun c35 => ?_)
    · refine seq fun K36 hK36 => ?_
      refine reg ?_
      refine s_y (y_assign (v := (Vi 1)) rfl) rfl ?_
      refine s_nil (hK36 _ _ (genC [(8, (Vi 1))] ⟨rfl, trivial⟩ ?_))
      clear hK36; rintro E ⟨g37, -⟩
      refine ret (hret _ _ [(Vi 1)] ⟨g37, trivial⟩ ?_)
      have hf38 := (SesIs.k0 h hk13)
      exact ⟨st, SesNx.same ka14 hf38 (fun b e => e.elim (fun e => e ▸ sfp_box hp) sfp_q), .inl ⟨by omega, rfl, rfl⟩⟩
    · refine skip (hK10 _ _ (genC [(0, (Vp g.tb 0)), (1, (Vi (p.1.id))), (2, (Vi state)), (3, (Vi due))] ⟨g30, g31, g32, g33, trivial⟩ ?_))
      clear hK10; rintro E ⟨g39, g40, g41, g42, -⟩
      refine seq fun K43 hK43 => ?_
      refine reg ?_
      refine s_y (y_move (v := (Vp g.tb 0)) g39) rfl ?_
      refine s_y (y_nil rfl) rfl ?_
      refine s_y (y_fld fo115_2 rfl) rfl ?_
      have hb44 := (hk13.get0 hb0)
      refine s_y (y_load (v := (.map (some g.mb))) rfl (rd_sc sc110 (On.now hb44) rfl)) rfl ?_
      refine s_y (y_move (v := (Vi (p.1.id))) g40) rfl ?_
      have hf45 := (hm0.kp hk13 id)
      refine s_y (y_lookup2_some kf3 Tryd.underlying110 ze116 (MapOn.now hf45) rfl rfl (show inI p.1.id from inI_of (by omega) (by omega)) hag9) rfl ?_
      refine s_y (y_move (v := (.tuple #[(Vp p.2 0), Vt])) rfl) rfl ?_
      refine s_y (y_ext rfl (v := (Vp p.2 0)) rfl) rfl ?_
      refine s_y (y_ext rfl (v := Vt) rfl) rfl ?_
      refine s_y (y_assign (v := (Vp p.2 0)) rfl) rfl ?_
      refine s_y (y_assign (v := Vt) rfl) rfl ?_
      refine s_nil (hK43 _ _ (genC [(0, (Vp g.tb 0)), (1, (Vi (p.1.id))), (2, (Vi state)), (3, (Vi due)), (9, (Vp p.2 0)), (10, Vt)] ⟨g39, g40, g41, g42, rfl, rfl, trivial⟩ ?_))
      clear hK43; rintro E ⟨g46, g47, g48, g49, g50, g51, -⟩
      refine seq fun K52 hK52 => ?_
      refine seq fun K53 hK53 => ?_
      refine reg ?_
      refine s_y (y_move (v := Vt) g51) rfl ?_
      refine s_y (y_not rfl) rfl ?_
      refine s_nil (hK53 _ _ (genC [(0, (Vp g.tb 0)), (1, (Vi (p.1.id))), (2, (Vi state)), (3, (Vi due)), (9, (Vp p.2 0)), (31, Vf)] ⟨g46, g47, g48, g49, g50, rfl, trivial⟩ ?_))
      clear hK53; rintro E ⟨g54, g55, g56, g57, g58, g59, -⟩
      refine cond_f g59 ?_
      refine skip (hK52 _ _ (genC [(0, (Vp g.tb 0)), (1, (Vi (p.1.id))), (2, (Vi state)), (3, (Vi due)), (9, (Vp p.2 0))] ⟨g54, g55, g56, g57, g58, trivial⟩ ?_))
      clear hK52; rintro E ⟨g60, g61, g62, g63, g64, -⟩
      refine seq fun K65 hK65 => ?_
      refine reg ?_
      refine s_y (y_move (v := (Vp p.2 0)) g64) rfl ?_
      refine s_y (y_move (v := (Vp p.2 0)) g64) rfl ?_
      refine s_y (y_move (v := (Vi state)) g62) rfl ?_
      refine s_y (y_move (v := (Vi due)) g63) rfl ?_
      refine s_y (y_nil rfl) rfl ?_
      refine s_y (y_fld fo59_3 rfl) rfl ?_
      have hb66 := (hk13.get0 hbx9)
      refine s_e0 (e_storeV (cs' := #[(Vi (p.1.id)), (Vi (p.1.binding)), (u8 p.1.peer.addr.a), (u8 p.1.peer.addr.b), (u8 p.1.peer.addr.c), (u8 p.1.peer.addr.d), (Vi (p.1.peer.port)), (Vi state), (Vi (p.1.due))]) [(Vi state)] rfl (v := (Vi state)) rfl rfl sz3 hb66 rfl rfl rfl) ?_
      rintro _ w67 ⟨hb68, hk69⟩
      have ka70 := (Kp.trans ka14 hk69 (fun _ _ e => (fun e => (.inl e)) e))
      refine s_y (y_nil rfl) rfl ?_
      refine s_y (y_fld fo59_4 rfl) rfl ?_
      refine s_e0 (e_storeV (cs' := #[(Vi (p.1.id)), (Vi (p.1.binding)), (u8 p.1.peer.addr.a), (u8 p.1.peer.addr.b), (u8 p.1.peer.addr.c), (u8 p.1.peer.addr.d), (Vi (p.1.peer.port)), (Vi state), (Vi due)]) [(Vi due)] rfl (v := (Vi due)) rfl rfl sz3 hb68 rfl rfl rfl) ?_
      rintro _ w71 ⟨hb72, hk73⟩
      have ka74 := (Kp.trans ka70 hk73 (fun _ _ e => (fun e => (.inl e)) e))
      refine s_nil (hK65 _ _ (genC [(0, (Vp g.tb 0)), (1, (Vi (p.1.id))), (3, (Vi due))] ⟨g60, g61, g63, trivial⟩ ?_))
      clear hK65; rintro E ⟨g75, g76, g77, -⟩
      refine seq fun K78 hK78 => ?_
      refine reg ?_
      refine s_y (y_move (v := (Vp g.tb 0)) g75) rfl ?_
      refine s_y (y_nil rfl) rfl ?_
      refine s_y (y_fld fo115_4 rfl) rfl ?_
      have hb79 := (hk73.get (hk69.get hb44 (Ne.symm (Ne.symm (SesIs.fx_box h (List.mem_of_getElem? (i := 0) (rfl : g.fx[0]? = some g.tb)) hp)))) (Ne.symm (Ne.symm (SesIs.fx_box h (List.mem_of_getElem? (i := 0) (rfl : g.fx[0]? = some g.tb)) hp))))
      refine s_y (y_load (v := (Vp g.q.qb 0)) rfl (rd_sc sc111 (On.now hb79) rfl)) rfl ?_
      refine s_y (y_move (v := (Vi (p.1.id))) g76) rfl ?_
      refine s_y (y_move (v := (Vi due)) g77) rfl ?_
      have hf80 := (QIs.kp (QIs.kp (QIs.k0 hq0 hk13) hk69 (fun b hb => (fun e => (SesIs.box_q h hp) (e ▸ hb)))) hk73 (fun b hb => (fun e => (SesIs.box_q h hp) (e ▸ hb))))
      refine s_e (e_call ca64 (args := [(Vp g.q.qb 0), (Vi (p.1.id)), (Vi due)]) rfl (qset_old hf80 p.1.id due hgd9 (by omega) (by rw [qlen h]; exact hc) (qmem h hp))) rfl ?_
      rintro _ w81 ⟨rfl, q82, hN83, hp84⟩
      have ka85 := (Kp.trans ka74 (QNx.kp hN83) (fun _ _ e => (fun e => (.inr e)) e))
      refine s_y (y_assign (v := (Vi 0)) rfl) rfl ?_
      refine s_nil (hK78 _ _ (genC [(8, (Vi 0))] ⟨rfl, trivial⟩ ?_))
      clear hK78; rintro E ⟨g86, -⟩
      refine ret (hret _ _ [(Vi 0)] ⟨g86, trivial⟩ ?_)
      have hz87 := (nl (nl hk13.size hk69.size) hk73.size)
      have hb88 := ((QNx.kp hN83).get hb72 (SesIs.box_q h hp))
      exact ⟨_, SesIs.set h hp ka85 hz87 (QNx.kp hN83).size (Nat.le_refl _) hb88 (QNx.is hN83) hN83 hp84, .inr ⟨by omega, rfl, rfl, rfl⟩⟩

theorem sdrop_none {g : SesG} {st : SesS} {w : World} (h : SesIs g st w) (n : Int) (hid : -9223372036854775808 ≤ n ∧ n ≤ 9223372036854775807) (hno : ∀ p ∈ st.l, p.1.id ≠ n)  : Rets Tryd.prog 29 #[(.pointer (some ⟨g.tb, 0, none⟩)), (.int .i64 n)] w fun v w' => v = .tuple #[sv zeroS, .int .i64 4] ∧ K0 w w' := by
  refine enter Tryd.func29 rfl Tryd.ntmps29 rfl fun Q hret hend E hE => ?_
  have g1 : E 0 = (Vp g.tb 0) := hE 0
  have g2 : E 1 = (Vi n) := hE 1
  clear hE
  have hb0 := h.blk; have hm0 := h.map; have hT0 := h.tb; have hx0 := h.ix; have hq0 := h.q; have ho0 := h.omap
  have hag9 : aget (sidl st.l) n = none := aget_none.2 fun p hp e => by
    obtain ⟨q, hq, rfl⟩ := List.mem_map.1 hp; exact hno q hq e
  refine seq fun K3 hK3 => ?_
  refine reg ?_
  refine s_e (e_alloc ze59) rfl ?_
  rintro _ w4 ⟨rfl, hb5, hk6⟩
  have ka7 : Kp (fun _ => False) w w4 := (Kp.then0 (Kp.refl _ _) hk6)
  refine s_y (y_assign (v := (Vi 0)) rfl) rfl ?_
  refine s_nil (hK3 _ _ (genC [(0, (Vp g.tb 0)), (1, (Vi n)), (4, (Vp w.heap.size 0))] ⟨g1, g2, rfl, trivial⟩ ?_))
  clear hK3; rintro E ⟨g8, g9, g10, -⟩
  refine seq fun K11 hK11 => ?_
  refine seq fun K12 hK12 => ?_
  refine reg ?_
  refine s_y (y_move (v := (Vp g.tb 0)) g8) rfl ?_
  have hf13 := (SesIs.k0 h hk6)
  refine s_e (e_call ca61 (args := [(Vp g.tb 0)]) rfl (snone_spec hf13)) rfl ?_
  rintro _ w14 ⟨rfl, hk15⟩
  have ka16 := (Kp.then0 ka7 hk15)
  refine s_nil (hK12 _ _ (genC [(0, (Vp g.tb 0)), (1, (Vi n)), (4, (Vp w.heap.size 0)), (9, Vf)] ⟨g8, g9, g10, rfl, trivial⟩ ?_))
  clear hK12; rintro E ⟨g17, g18, g19, g20, -⟩
  refine cond_f g20 ?_
  refine skip (hK11 _ _ (genC [(0, (Vp g.tb 0)), (1, (Vi n)), (4, (Vp w.heap.size 0))] ⟨g17, g18, g19, trivial⟩ ?_))
  clear hK11; rintro E ⟨g21, g22, g23, -⟩
  refine seq fun K24 hK24 => ?_
  refine reg ?_
  refine s_y (y_move (v := (Vp g.tb 0)) g21) rfl ?_
  refine s_y (y_nil rfl) rfl ?_
  refine s_y (y_fld fo115_2 rfl) rfl ?_
  have hb25 := (hk15.get0 (hk6.get0 hb0))
  refine s_y (y_load (v := (.map (some g.mb))) rfl (rd_sc sc110 (On.now hb25) rfl)) rfl ?_
  refine s_y (y_move (v := (Vi n)) g22) rfl ?_
  have hf26 := ((hm0.kp hk6 id).kp hk15 id)
  refine s_y (y_lookup2_none kf3 Tryd.underlying110 ze116 (MapOn.now hf26) rfl rfl (show inI n from inI_of (by omega) (by omega)) hag9) rfl ?_
  refine s_y (y_move (v := (.tuple #[(.pointer none), Vf])) rfl) rfl ?_
  refine s_y (y_ext rfl (v := (.pointer none)) rfl) rfl ?_
  refine s_y (y_ext rfl (v := Vf) rfl) rfl ?_
  refine s_y (y_assign (v := (.pointer none)) rfl) rfl ?_
  refine s_y (y_assign (v := Vf) rfl) rfl ?_
  refine s_nil (hK24 _ _ (genC [(0, (Vp g.tb 0)), (1, (Vi n)), (4, (Vp w.heap.size 0)), (6, (.pointer none)), (7, Vf)] ⟨g21, g22, g23, rfl, rfl, trivial⟩ ?_))
  clear hK24; rintro E ⟨g27, g28, g29, g30, g31, -⟩
  refine seq fun K32 hK32 => ?_
  refine seq fun K33 hK33 => ?_
  refine reg ?_
  refine s_y (y_move (v := Vf) g31) rfl ?_
  refine s_y (y_not rfl) rfl ?_
  refine s_nil (hK33 _ _ (genC [(0, (Vp g.tb 0)), (1, (Vi n)), (4, (Vp w.heap.size 0)), (6, (.pointer none)), (21, Vt)] ⟨g27, g28, g29, g30, rfl, trivial⟩ ?_))
  clear hK33; rintro E ⟨g34, g35, g36, g37, g38, -⟩
  refine cond_t g38 ?_
  refine seq fun K39 hK39 => ?_
  refine reg ?_
  refine s_y (y_build (vs := []) (v := (.agg #[.int .i64 0, .int .i64 0, U0, U0, U0, U0, .int .i64 0, .int .i64 0, .int .i64 0])) rfl (fun _ => by kernel_rfl)) rfl ?_
  have hb40 := (hk15.get0 hb5)
  refine s_e0 (e_storeV (cs' := #[(Vi 0), (Vi 0), U0, U0, U0, U0, (Vi 0), (Vi 0), (Vi 0)]) [(Vi 0), (Vi 0), U0, U0, U0, U0, (Vi 0), (Vi 0), (Vi 0)] g36 (v := (.agg #[.int .i64 0, .int .i64 0, U0, U0, U0, U0, .int .i64 0, .int .i64 0, .int .i64 0])) rfl rfl sz59 hb40 rfl rfl rfl) ?_
  rintro _ w41 ⟨hb42, hk43⟩
  have ka44 := (Kp.fresh ka16 hk43 fun _ e => nl (nl (Nat.le_refl _) (Nat.le_refl _)) (Nat.le_of_eq e.symm))
  refine s_y (y_assign (v := (Vi 4)) rfl) rfl ?_
  refine s_nil (hK39 _ _ (genC [(4, (Vp w.heap.size 0)), (5, (Vi 4))] ⟨g36, rfl, trivial⟩ ?_))
  clear hK39; rintro E ⟨g45, g46, -⟩
  refine ret (hret _ _ [(sv (⟨0, 0, (⟨(⟨0, 0, 0, 0⟩ : V4), 0⟩ : T4), 0, 0⟩ : Session)), (Vi 4)] ⟨⟨_, g45, (rd_agg (vs := [(Vi 0), (Vi 0), U0, U0, U0, U0, (Vi 0), (Vi 0), (Vi 0)]) ag59 (On.now hb42) (by kernel_rfl) rfl)⟩, g46, trivial⟩ ?_)
  exact ⟨rfl, ka44⟩

theorem sdrop_at {g : SesG} {st : SesS} {w : World} (ok : SesOk g) (h : SesIs g st w) {p : Session × Nat} (hp : p ∈ st.l) (hu : ∀ q ∈ st.l, q.1.binding = p.1.binding → q.1.peer = p.1.peer → q = p) (hbp : -9223372036854775808 ≤ p.1.binding ∧ p.1.binding ≤ 9223372036854775807) (htp : -9223372036854775808 ≤ p.1.peer.port ∧ p.1.peer.port ≤ 9223372036854775807) {e9 : Int × Nat × List (Int × Bool)} (hf9 : st.o.find? (fun e => decide (e.1 = p.1.binding)) = some e9)  : Rets Tryd.prog 29 #[(.pointer (some ⟨g.tb, 0, none⟩)), (.int .i64 (p.1.id))] w fun v w' => ∃ st', SesNx g st w st' w' ∧ v = .tuple #[sv p.1, .int .i64 0] ∧ st'.last = st.last ∧ st'.l = cutS st.l p.1.id := by
  refine enter Tryd.func29 rfl Tryd.ntmps29 rfl fun Q hret hend E hE => ?_
  have g1 : E 0 = (Vp g.tb 0) := hE 0
  have g2 : E 1 = (Vi (p.1.id)) := hE 1
  clear hE
  have hb0 := h.blk; have hm0 := h.map; have hT0 := h.tb; have hx0 := h.ix; have hq0 := h.q; have ho0 := h.omap
  have hag9 := h.aget hp; have hgd9 := h.good hp; unfold inI at hgd9; have hbx9 := h.box p hp
  have he9 := List.mem_of_find?_eq_some hf9; have hek9 := find_key hf9; have hi9 := h.oin e9 he9; have hag8 := aget_oml h hf9; have hgb9 : inI p.1.binding := hbp
  refine seq fun K3 hK3 => ?_
  refine reg ?_
  refine s_e (e_alloc ze59) rfl ?_
  rintro _ w4 ⟨rfl, hb5, hk6⟩
  have ka7 : Kp (fun k => k = g.tb ∨ k = g.mb ∨ k = g.om ∨ k = g.x.ib ∨ k = g.x.sb ∨ k ∈ qfp g.q st.qs ∨ k = e9.2.1) w w4 := (Kp.then0 (Kp.refl _ _) hk6)
  refine s_y (y_assign (v := (Vi 0)) rfl) rfl ?_
  refine s_nil (hK3 _ _ (genC [(0, (Vp g.tb 0)), (1, (Vi (p.1.id))), (4, (Vp w.heap.size 0))] ⟨g1, g2, rfl, trivial⟩ ?_))
  clear hK3; rintro E ⟨g8, g9, g10, -⟩
  refine seq fun K11 hK11 => ?_
  refine seq fun K12 hK12 => ?_
  refine reg ?_
  refine s_y (y_move (v := (Vp g.tb 0)) g8) rfl ?_
  have hf13 := (SesIs.k0 h hk6)
  refine s_e (e_call ca61 (args := [(Vp g.tb 0)]) rfl (snone_spec hf13)) rfl ?_
  rintro _ w14 ⟨rfl, hk15⟩
  have ka16 := (Kp.then0 ka7 hk15)
  refine s_nil (hK12 _ _ (genC [(0, (Vp g.tb 0)), (1, (Vi (p.1.id))), (4, (Vp w.heap.size 0)), (9, Vf)] ⟨g8, g9, g10, rfl, trivial⟩ ?_))
  clear hK12; rintro E ⟨g17, g18, g19, g20, -⟩
  refine cond_f g20 ?_
  refine skip (hK11 _ _ (genC [(0, (Vp g.tb 0)), (1, (Vi (p.1.id))), (4, (Vp w.heap.size 0))] ⟨g17, g18, g19, trivial⟩ ?_))
  clear hK11; rintro E ⟨g21, g22, g23, -⟩
  refine seq fun K24 hK24 => ?_
  refine reg ?_
  refine s_y (y_move (v := (Vp g.tb 0)) g21) rfl ?_
  refine s_y (y_nil rfl) rfl ?_
  refine s_y (y_fld fo115_2 rfl) rfl ?_
  have hb25 := (hk15.get0 (hk6.get0 hb0))
  refine s_y (y_load (v := (.map (some g.mb))) rfl (rd_sc sc110 (On.now hb25) rfl)) rfl ?_
  refine s_y (y_move (v := (Vi (p.1.id))) g22) rfl ?_
  have hf26 := ((hm0.kp hk6 id).kp hk15 id)
  refine s_y (y_lookup2_some kf3 Tryd.underlying110 ze116 (MapOn.now hf26) rfl rfl (show inI p.1.id from inI_of (by omega) (by omega)) hag9) rfl ?_
  refine s_y (y_move (v := (.tuple #[(Vp p.2 0), Vt])) rfl) rfl ?_
  refine s_y (y_ext rfl (v := (Vp p.2 0)) rfl) rfl ?_
  refine s_y (y_ext rfl (v := Vt) rfl) rfl ?_
  refine s_y (y_assign (v := (Vp p.2 0)) rfl) rfl ?_
  refine s_y (y_assign (v := Vt) rfl) rfl ?_
  refine s_nil (hK24 _ _ (genC [(0, (Vp g.tb 0)), (1, (Vi (p.1.id))), (4, (Vp w.heap.size 0)), (6, (Vp p.2 0)), (7, Vt)] ⟨g21, g22, g23, rfl, rfl, trivial⟩ ?_))
  clear hK24; rintro E ⟨g27, g28, g29, g30, g31, -⟩
  refine seq fun K32 hK32 => ?_
  refine seq fun K33 hK33 => ?_
  refine reg ?_
  refine s_y (y_move (v := Vt) g31) rfl ?_
  refine s_y (y_not rfl) rfl ?_
  refine s_nil (hK33 _ _ (genC [(0, (Vp g.tb 0)), (1, (Vi (p.1.id))), (4, (Vp w.heap.size 0)), (6, (Vp p.2 0)), (21, Vf)] ⟨g27, g28, g29, g30, rfl, trivial⟩ ?_))
  clear hK33; rintro E ⟨g34, g35, g36, g37, g38, -⟩
  refine cond_f g38 ?_
  refine skip (hK32 _ _ (genC [(0, (Vp g.tb 0)), (1, (Vi (p.1.id))), (4, (Vp w.heap.size 0)), (6, (Vp p.2 0))] ⟨g34, g35, g36, g37, trivial⟩ ?_))
  clear hK32; rintro E ⟨g39, g40, g41, g42, -⟩
  refine seq fun K43 hK43 => ?_
  refine reg ?_
  refine s_y (y_move (v := (Vp g.tb 0)) g39) rfl ?_
  refine s_y (y_nil rfl) rfl ?_
  refine s_y (y_fld fo115_2 rfl) rfl ?_
  refine s_y (y_load (v := (.map (some g.mb))) rfl (rd_sc sc110 (On.now hb25) rfl)) rfl ?_
  refine s_y (y_move (v := (Vi (p.1.id))) g40) rfl ?_
  refine s_e0 (e_delete kf3 Tryd.underlying110 hf26 rfl rfl (show inI p.1.id from inI_of (by omega) (by omega))) ?_
  rintro _ w44 ⟨hm45, hk46⟩
  have ka47 := (Kp.trans ka16 hk46 (fun _ _ e => (fun e => (.inr (.inl e))) e))
  refine s_nil (hK43 _ _ (genC [(0, (Vp g.tb 0)), (1, (Vi (p.1.id))), (4, (Vp w.heap.size 0)), (6, (Vp p.2 0))] ⟨g39, g40, g41, g42, trivial⟩ ?_))
  clear hK43; rintro E ⟨g48, g49, g50, g51, -⟩
  refine seq fun K52 hK52 => ?_
  refine regD (fun k => k = g.x.ib ∨ k = g.x.sb) (.take 0 (.take 1 (.take 2 (.take 3 (.take 4 (.take 5 (.take 6 (.take 7 (.take 8 (.take 9 (.take 10 (.take 11 (.one 12 (.one 13 .done)))))))))))))) mixed (by kernel_rfl) fun w53 hh54 hk55 => ?_
  have ka56 := (Kp.then0 ka47 hk55)
  refine o_y rfl (y_move (v := (Vp g.tb 0)) g48) ?_
  refine o_y rfl (y_nil rfl) ?_
  refine o_y rfl (y_fld fo115_3 rfl) ?_
  refine o_y rfl (y_load (v := (Vp g.x.ib 0)) rfl (rd_sc sc88 (On.kp (hk55.get0 (hk46.get hb25 (fx_ne h.nd (i := 0) (j := 1) (by decide) rfl rfl))) (not_or.2 ⟨(fx_ne h.nd (i := 0) (j := 3) (by decide) rfl rfl), (fx_ne h.nd (i := 0) (j := 4) (by decide) rfl rfl)⟩)) rfl)) ?_
  refine o_y rfl (y_move (v := (Vp p.2 0)) g51) ?_
  refine o_y rfl (y_nil rfl) ?_
  refine o_y rfl (y_fld fo59_1 rfl) ?_
  refine o_y rfl (y_load (v := (Vi (p.1.binding))) rfl (rd_sc sc3 (On.kp (hk55.get0 (hk46.get (hk15.get0 (hk6.get0 hbx9)) (Ne.symm (SesIs.fx_box h (List.mem_of_getElem? (i := 1) (rfl : g.fx[1]? = some g.mb)) hp)))) (not_or.2 ⟨(Ne.symm (SesIs.fx_box h (List.mem_of_getElem? (i := 3) (rfl : g.fx[3]? = some g.x.ib)) hp)), (Ne.symm (SesIs.fx_box h (List.mem_of_getElem? (i := 4) (rfl : g.fx[4]? = some g.x.sb)) hp))⟩)) rfl)) ?_
  refine o_y rfl (y_move (v := (Vp p.2 0)) g51) ?_
  refine o_y rfl (y_nil rfl) ?_
  refine o_y rfl (y_fld fo59_2 rfl) ?_
  refine o_y rfl (y_load (v := (t4 p.1.peer)) rfl (rd_agg (vs := p.1.peer.cs) ag34 (On.kp (hk55.get0 (hk46.get (hk15.get0 (hk6.get0 hbx9)) (Ne.symm (SesIs.fx_box h (List.mem_of_getElem? (i := 1) (rfl : g.fx[1]? = some g.mb)) hp)))) (not_or.2 ⟨(Ne.symm (SesIs.fx_box h (List.mem_of_getElem? (i := 3) (rfl : g.fx[3]? = some g.x.ib)) hp)), (Ne.symm (SesIs.fx_box h (List.mem_of_getElem? (i := 4) (rfl : g.fx[4]? = some g.x.sb)) hp))⟩)) (by kernel_rfl) rfl)) ?_
  refine o_one ?_
  have hf57 := ((((hT0.kp hk6 id).kp hk15 id).kp hk46 (Ne.symm (SesIs.fx_t h (List.mem_of_getElem? (i := 1) (rfl : g.fx[1]? = some g.mb))))).kp hk55 id)
  refine c_e rfl (e_call ca63 (args := [(Vi (p.1.binding)), (t4 p.1.peer)]) rfl (skey_spec p.1.binding p.1.peer _ (by omega) (by omega) hf57)) ?_
  rintro _ w58 ⟨rfl, hk59⟩
  have ka60 := (Kp.then0 ka56 hk59)
  have ks61 : Kp (fun k => k = g.x.ib ∨ k = g.x.sb) w53 w58 := (Kp.then0 (Kp.refl _ _) hk59)
  refine ⟨ks61, ?_⟩
  refine o_one ?_
  have hf62 := (IxIs.kp (IxIs.kp (IxIs.kp (IxIs.kp (IxIs.kp hx0 hk6 id id) hk15 id id) hk46 (fx_ne h.nd (i := 3) (j := 1) (by decide) rfl rfl) (fx_ne h.nd (i := 4) (j := 1) (by decide) rfl rfl)) hk55 id id) hk59 id id)
  refine c_e rfl (e_call ca65 (args := [(Vp g.x.ib 0), (.string (k4 p.1.binding p.1.peer))]) rfl (del_spec ok.x hf62 _ p.1.id (keyM_some h hp hu))) ?_
  rintro _ w63 ⟨rfl, hI64, hk65⟩
  have ka66 := (Kp.trans ka60 hk65 (fun _ _ e => (fun e => e.elim (fun e => (.inr (.inr (.inr (.inl e))))) (fun e => (.inr (.inr (.inr (.inr (.inl e))))))) e))
  have ks67 := (Kp.trans ks61 hk65 (fun _ _ e => e))
  refine ⟨ks67, ?_⟩
  refine o_done (hK52 _ _ (genC [(0, (Vp g.tb 0)), (1, (Vi (p.1.id))), (4, (Vp w.heap.size 0)), (6, (Vp p.2 0))] ⟨g48, g49, g50, g51, trivial⟩ ?_))
  clear hK52; rintro E ⟨g68, g69, g70, g71, -⟩
  refine seq fun K72 hK72 => ?_
  refine reg ?_
  refine s_y (y_move (v := (Vp g.tb 0)) g68) rfl ?_
  refine s_y (y_nil rfl) rfl ?_
  refine s_y (y_fld fo115_4 rfl) rfl ?_
  have hb73 := (hk65.get (hk59.get0 (hk55.get0 (hk46.get hb25 (fx_ne h.nd (i := 0) (j := 1) (by decide) rfl rfl)))) (not_or.2 ⟨(fx_ne h.nd (i := 0) (j := 3) (by decide) rfl rfl), (fx_ne h.nd (i := 0) (j := 4) (by decide) rfl rfl)⟩))
  refine s_y (y_load (v := (Vp g.q.qb 0)) rfl (rd_sc sc111 (On.now hb73) rfl)) rfl ?_
  refine s_y (y_move (v := (Vi (p.1.id))) g69) rfl ?_
  have hf74 := (QIs.kp (QIs.k0 (QIs.k0 (QIs.kp (QIs.k0 (QIs.k0 hq0 hk6) hk15) hk46 (fun b hb => (fun e => (SesIs.fx_q h (List.mem_of_getElem? (i := 1) (rfl : g.fx[1]? = some g.mb))) (e ▸ hb)))) hk55) hk59) hk65 (fun b hb => (fun e => e.elim (fun e => (SesIs.fx_q h (List.mem_of_getElem? (i := 3) (rfl : g.fx[3]? = some g.x.ib))) (e ▸ hb)) (fun e => (SesIs.fx_q h (List.mem_of_getElem? (i := 4) (rfl : g.fx[4]? = some g.x.sb))) (e ▸ hb)))))
  refine s_e (e_call ca66 (args := [(Vp g.q.qb 0), (Vi (p.1.id))]) rfl (qdrop_old hf74 p.1.id hgd9 h.qids (qmem h hp))) rfl ?_
  rintro _ w75 ⟨rfl, q76, hN77, hp78⟩
  have ka79 := (Kp.trans ka66 (QNx.kp hN77) (fun _ _ e => (fun e => (.inr (.inr (.inr (.inr (.inr (.inl e))))))) e))
  refine s_nil (hK72 _ _ (genC [(0, (Vp g.tb 0)), (1, (Vi (p.1.id))), (4, (Vp w.heap.size 0)), (6, (Vp p.2 0))] ⟨g68, g69, g70, g71, trivial⟩ ?_))
  clear hK72; rintro E ⟨g80, g81, g82, g83, -⟩
  refine seq fun K84 hK84 => ?_
  refine regD (· = e9.2.1) (.take 0 (.take 1 (.take 2 (.take 3 (.take 4 (.take 5 (.take 6 (.take 7 (.take 8 (.take 9 (.one 10 .done))))))))))) mixed (by kernel_rfl) fun w85 hh86 hk87 => ?_
  have ka88 := (Kp.then0 ka79 hk87)
  refine o_y rfl (y_move (v := (Vp g.tb 0)) g80) ?_
  refine o_y rfl (y_nil rfl) ?_
  refine o_y rfl (y_fld fo115_5 rfl) ?_
  refine o_y rfl (y_load (v := (.map (some g.om))) rfl (rd_sc sc113 (On.kp (hk87.get0 ((QNx.kp hN77).get hb73 (SesIs.fx_q h (List.mem_of_getElem? (i := 0) (rfl : g.fx[0]? = some g.tb))))) (Ne.symm (Ne.symm (SesIs.fx_in h (List.mem_of_getElem? (i := 0) (rfl : g.fx[0]? = some g.tb)) he9)))) rfl)) ?_
  refine o_y rfl (y_move (v := (Vp p.2 0)) g83) ?_
  refine o_y rfl (y_nil rfl) ?_
  refine o_y rfl (y_fld fo59_1 rfl) ?_
  refine o_y rfl (y_load (v := (Vi (p.1.binding))) rfl (rd_sc sc3 (On.kp (hk87.get0 ((QNx.kp hN77).get (hk65.get (hk59.get0 (hk55.get0 (hk46.get (hk15.get0 (hk6.get0 hbx9)) (Ne.symm (SesIs.fx_box h (List.mem_of_getElem? (i := 1) (rfl : g.fx[1]? = some g.mb)) hp))))) (not_or.2 ⟨(Ne.symm (SesIs.fx_box h (List.mem_of_getElem? (i := 3) (rfl : g.fx[3]? = some g.x.ib)) hp)), (Ne.symm (SesIs.fx_box h (List.mem_of_getElem? (i := 4) (rfl : g.fx[4]? = some g.x.sb)) hp))⟩)) (SesIs.box_q h hp))) (SesIs.box_in h hp he9)) rfl)) ?_
  refine o_y rfl (y_lookup_some kf3 Tryd.underlying113 ze120 (MapOn.kp ((((((((ho0.kp hk6 id).kp hk15 id).kp hk46 (fx_ne h.nd (i := 2) (j := 1) (by decide) rfl rfl)).kp hk55 id).kp hk59 id).kp hk65 (not_or.2 ⟨(fx_ne h.nd (i := 2) (j := 3) (by decide) rfl rfl), (fx_ne h.nd (i := 2) (j := 4) (by decide) rfl rfl)⟩)).kp (QNx.kp hN77) (SesIs.fx_q h (List.mem_of_getElem? (i := 2) (rfl : g.fx[2]? = some g.om)))).kp hk87 id) (show ¬ (· = e9.2.1) g.om from (Ne.symm (Ne.symm (SesIs.fx_in h (List.mem_of_getElem? (i := 2) (rfl : g.fx[2]? = some g.om)) he9))))) rfl rfl (show inI p.1.binding from inI_of (by omega) (by omega)) hag8) ?_
  refine o_y rfl (y_move (v := (Vi (p.1.id))) g81) ?_
  refine o_one ?_
  have hf89 := ((((((((hi9.kp hk6 id).kp hk15 id).kp hk46 (Ne.symm (SesIs.fx_in h (List.mem_of_getElem? (i := 1) (rfl : g.fx[1]? = some g.mb)) he9))).kp hk55 id).kp hk59 id).kp hk65 (not_or.2 ⟨(Ne.symm (SesIs.fx_in h (List.mem_of_getElem? (i := 3) (rfl : g.fx[3]? = some g.x.ib)) he9)), (Ne.symm (SesIs.fx_in h (List.mem_of_getElem? (i := 4) (rfl : g.fx[4]? = some g.x.sb)) he9))⟩)).kp (QNx.kp hN77) (SesIs.in_q h he9)).kp hk87 id)
  refine c_e0 rfl (e_delete kf3 Tryd.underlying120 hf89 rfl rfl (show inI p.1.id from inI_of (by omega) (by omega))) ?_
  rintro _ w90 ⟨hm91, hk92⟩
  have ka93 := (Kp.trans ka88 hk92 (fun _ _ e => (fun e => (.inr (.inr (.inr (.inr (.inr (.inr e))))))) e))
  have ks94 : Kp (· = e9.2.1) w85 w90 := (Kp.trans (Kp.refl _ _) hk92 (fun _ _ e => e))
  refine ⟨ks94, ?_⟩
  refine o_done (hK84 _ _ (genC [(0, (Vp g.tb 0)), (4, (Vp w.heap.size 0)), (6, (Vp p.2 0))] ⟨g80, g82, g83, trivial⟩ ?_))
  clear hK84; rintro E ⟨g95, g96, g97, -⟩
  refine seq fun K98 hK98 => ?_
  refine seq fun K99 hK99 => ?_
  refine regD (fun _ => False) (.take 0 (.take 1 (.take 2 (.take 3 (.take 4 (.take 5 (.take 6 (.take 7 (.take 8 (.take 9 (.take 10 .done))))))))))) mixed (by kernel_rfl) fun w100 hh101 hk102 => ?_
  have ka103 := (Kp.then0 ka93 hk102)
  refine o_y rfl (y_move (v := (Vp g.tb 0)) g95) ?_
  refine o_y rfl (y_nil rfl) ?_
  refine o_y rfl (y_fld fo115_5 rfl) ?_
  refine o_y rfl (y_load (v := (.map (some g.om))) rfl (rd_sc sc113 (On.kp (hk102.get0 (hk92.get (hk87.get0 ((QNx.kp hN77).get hb73 (SesIs.fx_q h (List.mem_of_getElem? (i := 0) (rfl : g.fx[0]? = some g.tb))))) (Ne.symm (Ne.symm (SesIs.fx_in h (List.mem_of_getElem? (i := 0) (rfl : g.fx[0]? = some g.tb)) he9))))) id) rfl)) ?_
  refine o_y rfl (y_move (v := (Vp p.2 0)) g97) ?_
  refine o_y rfl (y_nil rfl) ?_
  refine o_y rfl (y_fld fo59_1 rfl) ?_
  refine o_y rfl (y_load (v := (Vi (p.1.binding))) rfl (rd_sc sc3 (On.kp (hk102.get0 (hk92.get (hk87.get0 ((QNx.kp hN77).get (hk65.get (hk59.get0 (hk55.get0 (hk46.get (hk15.get0 (hk6.get0 hbx9)) (Ne.symm (SesIs.fx_box h (List.mem_of_getElem? (i := 1) (rfl : g.fx[1]? = some g.mb)) hp))))) (not_or.2 ⟨(Ne.symm (SesIs.fx_box h (List.mem_of_getElem? (i := 3) (rfl : g.fx[3]? = some g.x.ib)) hp)), (Ne.symm (SesIs.fx_box h (List.mem_of_getElem? (i := 4) (rfl : g.fx[4]? = some g.x.sb)) hp))⟩)) (SesIs.box_q h hp))) (SesIs.box_in h hp he9))) id) rfl)) ?_
  refine o_y rfl (y_lookup_some kf3 Tryd.underlying113 ze120 (MapOn.kp ((((((((((ho0.kp hk6 id).kp hk15 id).kp hk46 (fx_ne h.nd (i := 2) (j := 1) (by decide) rfl rfl)).kp hk55 id).kp hk59 id).kp hk65 (not_or.2 ⟨(fx_ne h.nd (i := 2) (j := 3) (by decide) rfl rfl), (fx_ne h.nd (i := 2) (j := 4) (by decide) rfl rfl)⟩)).kp (QNx.kp hN77) (SesIs.fx_q h (List.mem_of_getElem? (i := 2) (rfl : g.fx[2]? = some g.om)))).kp hk87 id).kp hk92 (Ne.symm (Ne.symm (SesIs.fx_in h (List.mem_of_getElem? (i := 2) (rfl : g.fx[2]? = some g.om)) he9)))).kp hk102 id) (show ¬ (fun _ => False) g.om from id)) rfl rfl (show inI p.1.binding from inI_of (by omega) (by omega)) hag8) ?_
  refine o_y rfl (y_lenMap Tryd.underlying120 (MapOn.kp (hm91.kp hk102 id) (show ¬ (fun _ => False) e9.2.1 from id)) rfl) ?_
  refine o_y rfl (y_eql rfl rfl) ?_
  refine o_done (hK99 _ _ (genC [(0, (Vp g.tb 0)), (4, (Vp w.heap.size 0)), (6, (Vp p.2 0)), (68, (.bool (decide (((((adel e9.2.2 p.1.id).length : Nat) : Int) : Int) = 0))))] ⟨g95, g96, g97, rfl, trivial⟩ ?_))
  clear hK99; rintro E ⟨g104, g105, g106, g107, -⟩
  refine cond_d g107 (fun c108 => ?_) (fun c108 => ?_)
  · refine regD (· = g.om) (.take 0 (.take 1 (.take 2 (.take 3 (.take 4 (.take 5 (.take 6 (.take 7 (.one 8 .done))))))))) mixed (by kernel_rfl) fun w109 hh110 hk111 => ?_
    have ka112 := (Kp.then0 ka103 hk111)
    refine o_y rfl (y_move (v := (Vp g.tb 0)) g104) ?_
    refine o_y rfl (y_nil rfl) ?_
    refine o_y rfl (y_fld fo115_5 rfl) ?_
    refine o_y rfl (y_load (v := (.map (some g.om))) rfl (rd_sc sc113 (On.kp (hk111.get0 (hk102.get0 (hk92.get (hk87.get0 ((QNx.kp hN77).get hb73 (SesIs.fx_q h (List.mem_of_getElem? (i := 0) (rfl : g.fx[0]? = some g.tb))))) (Ne.symm (Ne.symm (SesIs.fx_in h (List.mem_of_getElem? (i := 0) (rfl : g.fx[0]? = some g.tb)) he9)))))) (fx_ne h.nd (i := 0) (j := 2) (by decide) rfl rfl)) rfl)) ?_
    refine o_y rfl (y_move (v := (Vp p.2 0)) g106) ?_
    refine o_y rfl (y_nil rfl) ?_
    refine o_y rfl (y_fld fo59_1 rfl) ?_
    refine o_y rfl (y_load (v := (Vi (p.1.binding))) rfl (rd_sc sc3 (On.kp (hk111.get0 (hk102.get0 (hk92.get (hk87.get0 ((QNx.kp hN77).get (hk65.get (hk59.get0 (hk55.get0 (hk46.get (hk15.get0 (hk6.get0 hbx9)) (Ne.symm (SesIs.fx_box h (List.mem_of_getElem? (i := 1) (rfl : g.fx[1]? = some g.mb)) hp))))) (not_or.2 ⟨(Ne.symm (SesIs.fx_box h (List.mem_of_getElem? (i := 3) (rfl : g.fx[3]? = some g.x.ib)) hp)), (Ne.symm (SesIs.fx_box h (List.mem_of_getElem? (i := 4) (rfl : g.fx[4]? = some g.x.sb)) hp))⟩)) (SesIs.box_q h hp))) (SesIs.box_in h hp he9)))) (Ne.symm (SesIs.fx_box h (List.mem_of_getElem? (i := 2) (rfl : g.fx[2]? = some g.om)) hp))) rfl)) ?_
    refine o_one ?_
    have hf113 := (((((((((((ho0.kp hk6 id).kp hk15 id).kp hk46 (fx_ne h.nd (i := 2) (j := 1) (by decide) rfl rfl)).kp hk55 id).kp hk59 id).kp hk65 (not_or.2 ⟨(fx_ne h.nd (i := 2) (j := 3) (by decide) rfl rfl), (fx_ne h.nd (i := 2) (j := 4) (by decide) rfl rfl)⟩)).kp (QNx.kp hN77) (SesIs.fx_q h (List.mem_of_getElem? (i := 2) (rfl : g.fx[2]? = some g.om)))).kp hk87 id).kp hk92 (Ne.symm (Ne.symm (SesIs.fx_in h (List.mem_of_getElem? (i := 2) (rfl : g.fx[2]? = some g.om)) he9)))).kp hk102 id).kp hk111 id)
    refine c_e0 rfl (e_delete kf3 Tryd.underlying113 hf113 rfl rfl (show inI p.1.binding from inI_of (by omega) (by omega))) ?_
    rintro _ w114 ⟨hm115, hk116⟩
    have ka117 := (Kp.trans ka112 hk116 (fun _ _ e => (fun e => (.inr (.inr (.inl e)))) e))
    have ks118 : Kp (· = g.om) w109 w114 := (Kp.trans (Kp.refl _ _) hk116 (fun _ _ e => e))
    refine ⟨ks118, ?_⟩
    refine o_done (hK98 _ _ (genC [(4, (Vp w.heap.size 0)), (6, (Vp p.2 0))] ⟨g105, g106, trivial⟩ ?_))
    clear hK98; rintro E ⟨g119, g120, -⟩
    refine seq fun K121 hK121 => ?_
    refine reg ?_
    refine s_y (y_move (v := (Vp p.2 0)) g120) rfl ?_
    refine s_y (y_nil rfl) rfl ?_
    have hb122 := (hk116.get (hk111.get0 (hk102.get0 (hk92.get (hk87.get0 ((QNx.kp hN77).get (hk65.get (hk59.get0 (hk55.get0 (hk46.get (hk15.get0 (hk6.get0 hbx9)) (Ne.symm (SesIs.fx_box h (List.mem_of_getElem? (i := 1) (rfl : g.fx[1]? = some g.mb)) hp))))) (not_or.2 ⟨(Ne.symm (SesIs.fx_box h (List.mem_of_getElem? (i := 3) (rfl : g.fx[3]? = some g.x.ib)) hp)), (Ne.symm (SesIs.fx_box h (List.mem_of_getElem? (i := 4) (rfl : g.fx[4]? = some g.x.sb)) hp))⟩)) (SesIs.box_q h hp))) (SesIs.box_in h hp he9)))) (Ne.symm (SesIs.fx_box h (List.mem_of_getElem? (i := 2) (rfl : g.fx[2]? = some g.om)) hp)))
    refine s_y (y_load (v := (sv p.1)) rfl (rd_agg (vs := p.1.cs) ag59 (On.now hb122) (by kernel_rfl) rfl)) rfl ?_
    have hb123 := (hk116.get (hk111.get0 (hk102.get0 (hk92.get (hk87.get0 ((QNx.kp hN77).get (hk65.get (hk59.get0 (hk55.get0 (hk46.get (hk15.get0 hb5) (Nat.ne_of_gt (nt (hm0.lt) (Nat.le_refl _)))))) (not_or.2 ⟨(Nat.ne_of_gt (nt ((IxIs.lt hx0).1) (Nat.le_refl _))), (Nat.ne_of_gt (nt ((IxIs.lt hx0).2) (Nat.le_refl _)))⟩)) (fun e => Nat.lt_irrefl _ (nt (SesIs.qlt h _ e) (nl (Nat.le_refl _) (Nat.le_refl _)))))) (Nat.ne_of_gt (nt (hi9.lt) (Nat.le_refl _)))))) (Nat.ne_of_gt (nt (ho0.lt) (Nat.le_refl _))))
    refine s_e0 (e_storeV (cs' := p.1.cs.toArray) p.1.cs g119 (v := (sv p.1)) rfl rfl sz59 hb123 rfl rfl rfl) ?_
    rintro _ w124 ⟨hb125, hk126⟩
    have ka127 := (Kp.fresh ka117 hk126 fun _ e => nl (nl (Nat.le_refl _) (Nat.le_refl _)) (Nat.le_of_eq e.symm))
    refine s_y (y_assign (v := (Vi 0)) rfl) rfl ?_
    refine s_nil (hK121 _ _ (genC [(4, (Vp w.heap.size 0)), (5, (Vi 0))] ⟨g119, rfl, trivial⟩ ?_))
    clear hK121; rintro E ⟨g128, g129, -⟩
    refine ret (hret _ _ [(sv p.1), (Vi 0)] ⟨⟨_, g128, (rd_agg (vs := p.1.cs) ag59 (On.now hb125) (by kernel_rfl) rfl)⟩, g129, trivial⟩ ?_)
    have hf130 := (hm115.kp hk126 (Nat.ne_of_lt (nt (ho0.lt) (Nat.le_refl _))))
    have hz131 := (nl (nl (nl (nl (nl hk6.size hk15.size) hk46.size) hk55.size) hk59.size) hk65.size)
    have hz132 := (nl (nl (nl (nl (nl (nl (QNx.kp hN77).size hk87.size) hk92.size) hk102.size) hk111.size) hk116.size) hk126.size)
    have hz133 := (nl (nl (nl (nl (nl hk87.size hk92.size) hk102.size) hk111.size) hk116.size) hk126.size)
    have hb134 := (hk126.get (hk116.get (hk111.get0 (hk102.get0 (hk92.get (hk87.get0 ((QNx.kp hN77).get hb73 (SesIs.fx_q h (List.mem_of_getElem? (i := 0) (rfl : g.fx[0]? = some g.tb))))) (Ne.symm (Ne.symm (SesIs.fx_in h (List.mem_of_getElem? (i := 0) (rfl : g.fx[0]? = some g.tb)) he9)))))) (fx_ne h.nd (i := 0) (j := 2) (by decide) rfl rfl)) (Nat.ne_of_lt (nt (lt_of_get hb0) (Nat.le_refl _))))
    have hf135 := ((((((((((hm45.kp hk55 id).kp hk59 id).kp hk65 (not_or.2 ⟨(fx_ne h.nd (i := 1) (j := 3) (by decide) rfl rfl), (fx_ne h.nd (i := 1) (j := 4) (by decide) rfl rfl)⟩)).kp (QNx.kp hN77) (SesIs.fx_q h (List.mem_of_getElem? (i := 1) (rfl : g.fx[1]? = some g.mb)))).kp hk87 id).kp hk92 (Ne.symm (Ne.symm (SesIs.fx_in h (List.mem_of_getElem? (i := 1) (rfl : g.fx[1]? = some g.mb)) he9)))).kp hk102 id).kp hk111 id).kp hk116 (fx_ne h.nd (i := 1) (j := 2) (by decide) rfl rfl)).kp hk126 (Nat.ne_of_lt (nt (hm0.lt) (Nat.le_refl _))))
    have hf136 := (IxIs.kp (IxIs.kp (IxIs.kp (IxIs.kp (IxIs.kp (IxIs.kp (IxIs.kp hI64 (QNx.kp hN77) (SesIs.fx_q h (List.mem_of_getElem? (i := 3) (rfl : g.fx[3]? = some g.x.ib))) (SesIs.fx_q h (List.mem_of_getElem? (i := 4) (rfl : g.fx[4]? = some g.x.sb)))) hk87 id id) hk92 (Ne.symm (Ne.symm (SesIs.fx_in h (List.mem_of_getElem? (i := 3) (rfl : g.fx[3]? = some g.x.ib)) he9))) (Ne.symm (Ne.symm (SesIs.fx_in h (List.mem_of_getElem? (i := 4) (rfl : g.fx[4]? = some g.x.sb)) he9)))) hk102 id id) hk111 id id) hk116 (fx_ne h.nd (i := 3) (j := 2) (by decide) rfl rfl) (fx_ne h.nd (i := 4) (j := 2) (by decide) rfl rfl)) hk126 (Nat.ne_of_lt (nt ((IxIs.lt hx0).1) (Nat.le_refl _))) (Nat.ne_of_lt (nt ((IxIs.lt hx0).2) (Nat.le_refl _))))
    have hz137 := (nl (nl (nl (nl hk15.size hk46.size) hk55.size) hk59.size) hk65.size)
    have hf138 := (QIs.kp (QIs.kp (QIs.k0 (QIs.k0 (QIs.kp (QIs.k0 (QNx.is hN77) hk87) hk92 (fun b hb => (fun e => (fun e => (QNx.sub hN77 _ e).elim (SesIs.in_q h he9) (fun e => Nat.lt_irrefl _ (nt (nt (hi9.lt) hz131) e))) (e ▸ hb)))) hk102) hk111) hk116 (fun b hb => (fun e => (fun e => (QNx.sub hN77 _ e).elim (SesIs.fx_q h (List.mem_of_getElem? (i := 2) (rfl : g.fx[2]? = some g.om))) (fun e => Nat.lt_irrefl _ (nt (nt (ho0.lt) hz131) e))) (e ▸ hb)))) hk126 (fun b hb => (fun e => (fun e => (QNx.sub hN77 _ e).elim (fun e => Nat.lt_irrefl _ (nt (SesIs.qlt h _ e) (nl (Nat.le_refl _) (Nat.le_refl _)))) (fun e => Nat.lt_irrefl _ (nt (nt (lt_of_get hb5) hz137) e))) (e ▸ hb))))
    exact ⟨_, SesIs.drop_gone h hp hu hf9 ka127 hz131 hz132 hz133 hb134 hf135 hf136 hf138 hN77 hp78 hf130 (List.eq_nil_of_length_eq_zero (by omega)), rfl, rfl, rfl⟩
  · refine skip (hK98 _ _ (genC [(4, (Vp w.heap.size 0)), (6, (Vp p.2 0))] ⟨g105, g106, trivial⟩ ?_))
    clear hK98; rintro E ⟨g139, g140, -⟩
    refine seq fun K141 hK141 => ?_
    refine reg ?_
    refine s_y (y_move (v := (Vp p.2 0)) g140) rfl ?_
    refine s_y (y_nil rfl) rfl ?_
    have hb142 := (hk102.get0 (hk92.get (hk87.get0 ((QNx.kp hN77).get (hk65.get (hk59.get0 (hk55.get0 (hk46.get (hk15.get0 (hk6.get0 hbx9)) (Ne.symm (SesIs.fx_box h (List.mem_of_getElem? (i := 1) (rfl : g.fx[1]? = some g.mb)) hp))))) (not_or.2 ⟨(Ne.symm (SesIs.fx_box h (List.mem_of_getElem? (i := 3) (rfl : g.fx[3]? = some g.x.ib)) hp)), (Ne.symm (SesIs.fx_box h (List.mem_of_getElem? (i := 4) (rfl : g.fx[4]? = some g.x.sb)) hp))⟩)) (SesIs.box_q h hp))) (SesIs.box_in h hp he9)))
    refine s_y (y_load (v := (sv p.1)) rfl (rd_agg (vs := p.1.cs) ag59 (On.now hb142) (by kernel_rfl) rfl)) rfl ?_
    have hb143 := (hk102.get0 (hk92.get (hk87.get0 ((QNx.kp hN77).get (hk65.get (hk59.get0 (hk55.get0 (hk46.get (hk15.get0 hb5) (Nat.ne_of_gt (nt (hm0.lt) (Nat.le_refl _)))))) (not_or.2 ⟨(Nat.ne_of_gt (nt ((IxIs.lt hx0).1) (Nat.le_refl _))), (Nat.ne_of_gt (nt ((IxIs.lt hx0).2) (Nat.le_refl _)))⟩)) (fun e => Nat.lt_irrefl _ (nt (SesIs.qlt h _ e) (nl (Nat.le_refl _) (Nat.le_refl _)))))) (Nat.ne_of_gt (nt (hi9.lt) (Nat.le_refl _)))))
    refine s_e0 (e_storeV (cs' := p.1.cs.toArray) p.1.cs g139 (v := (sv p.1)) rfl rfl sz59 hb143 rfl rfl rfl) ?_
    rintro _ w144 ⟨hb145, hk146⟩
    have ka147 := (Kp.fresh ka103 hk146 fun _ e => nl (nl (Nat.le_refl _) (Nat.le_refl _)) (Nat.le_of_eq e.symm))
    refine s_y (y_assign (v := (Vi 0)) rfl) rfl ?_
    refine s_nil (hK141 _ _ (genC [(4, (Vp w.heap.size 0)), (5, (Vi 0))] ⟨g139, rfl, trivial⟩ ?_))
    clear hK141; rintro E ⟨g148, g149, -⟩
    refine ret (hret _ _ [(sv p.1), (Vi 0)] ⟨⟨_, g148, (rd_agg (vs := p.1.cs) ag59 (On.now hb145) (by kernel_rfl) rfl)⟩, g149, trivial⟩ ?_)
    have hf150 := (((((((((((ho0.kp hk6 id).kp hk15 id).kp hk46 (fx_ne h.nd (i := 2) (j := 1) (by decide) rfl rfl)).kp hk55 id).kp hk59 id).kp hk65 (not_or.2 ⟨(fx_ne h.nd (i := 2) (j := 3) (by decide) rfl rfl), (fx_ne h.nd (i := 2) (j := 4) (by decide) rfl rfl)⟩)).kp (QNx.kp hN77) (SesIs.fx_q h (List.mem_of_getElem? (i := 2) (rfl : g.fx[2]? = some g.om)))).kp hk87 id).kp hk92 (Ne.symm (Ne.symm (SesIs.fx_in h (List.mem_of_getElem? (i := 2) (rfl : g.fx[2]? = some g.om)) he9)))).kp hk102 id).kp hk146 (Nat.ne_of_lt (nt (ho0.lt) (Nat.le_refl _))))
    have hz151 := (nl (nl (nl (nl (nl hk6.size hk15.size) hk46.size) hk55.size) hk59.size) hk65.size)
    have hz152 := (nl (nl (nl (nl (QNx.kp hN77).size hk87.size) hk92.size) hk102.size) hk146.size)
    have hz153 := (nl (nl (nl hk87.size hk92.size) hk102.size) hk146.size)
    have hb154 := (hk146.get (hk102.get0 (hk92.get (hk87.get0 ((QNx.kp hN77).get hb73 (SesIs.fx_q h (List.mem_of_getElem? (i := 0) (rfl : g.fx[0]? = some g.tb))))) (Ne.symm (Ne.symm (SesIs.fx_in h (List.mem_of_getElem? (i := 0) (rfl : g.fx[0]? = some g.tb)) he9))))) (Nat.ne_of_lt (nt (lt_of_get hb0) (Nat.le_refl _))))
    have hf155 := ((((((((hm45.kp hk55 id).kp hk59 id).kp hk65 (not_or.2 ⟨(fx_ne h.nd (i := 1) (j := 3) (by decide) rfl rfl), (fx_ne h.nd (i := 1) (j := 4) (by decide) rfl rfl)⟩)).kp (QNx.kp hN77) (SesIs.fx_q h (List.mem_of_getElem? (i := 1) (rfl : g.fx[1]? = some g.mb)))).kp hk87 id).kp hk92 (Ne.symm (Ne.symm (SesIs.fx_in h (List.mem_of_getElem? (i := 1) (rfl : g.fx[1]? = some g.mb)) he9)))).kp hk102 id).kp hk146 (Nat.ne_of_lt (nt (hm0.lt) (Nat.le_refl _))))
    have hf156 := (IxIs.kp (IxIs.kp (IxIs.kp (IxIs.kp (IxIs.kp hI64 (QNx.kp hN77) (SesIs.fx_q h (List.mem_of_getElem? (i := 3) (rfl : g.fx[3]? = some g.x.ib))) (SesIs.fx_q h (List.mem_of_getElem? (i := 4) (rfl : g.fx[4]? = some g.x.sb)))) hk87 id id) hk92 (Ne.symm (Ne.symm (SesIs.fx_in h (List.mem_of_getElem? (i := 3) (rfl : g.fx[3]? = some g.x.ib)) he9))) (Ne.symm (Ne.symm (SesIs.fx_in h (List.mem_of_getElem? (i := 4) (rfl : g.fx[4]? = some g.x.sb)) he9)))) hk102 id id) hk146 (Nat.ne_of_lt (nt ((IxIs.lt hx0).1) (Nat.le_refl _))) (Nat.ne_of_lt (nt ((IxIs.lt hx0).2) (Nat.le_refl _))))
    have hz157 := (nl (nl (nl (nl hk15.size hk46.size) hk55.size) hk59.size) hk65.size)
    have hf158 := (QIs.kp (QIs.k0 (QIs.kp (QIs.k0 (QNx.is hN77) hk87) hk92 (fun b hb => (fun e => (fun e => (QNx.sub hN77 _ e).elim (SesIs.in_q h he9) (fun e => Nat.lt_irrefl _ (nt (nt (hi9.lt) hz151) e))) (e ▸ hb)))) hk102) hk146 (fun b hb => (fun e => (fun e => (QNx.sub hN77 _ e).elim (fun e => Nat.lt_irrefl _ (nt (SesIs.qlt h _ e) (nl (Nat.le_refl _) (Nat.le_refl _)))) (fun e => Nat.lt_irrefl _ (nt (nt (lt_of_get hb5) hz157) e))) (e ▸ hb))))
    have hf159 := ((hm91.kp hk102 id).kp hk146 (Nat.ne_of_lt (nt (hi9.lt) (Nat.le_refl _))))
    exact ⟨_, SesIs.drop_stay h hp hu hf9 ka147 hz151 hz152 hz153 hb154 hf155 hf156 hf158 hN77 hp78 hf150 hf159 (fun e => by rw [e] at c108; exact c108 rfl), rfl, rfl, rfl⟩

theorem sdrop_some {g : SesG} {st : SesS} {w : World} (ok : SesOk g) (h : SesIs g st w) {p : Session × Nat} (hp : p ∈ st.l) (hu : ∀ q ∈ st.l, q.1.binding = p.1.binding → q.1.peer = p.1.peer → q = p) (hbp : -9223372036854775808 ≤ p.1.binding ∧ p.1.binding ≤ 9223372036854775807) (htp : -9223372036854775808 ≤ p.1.peer.port ∧ p.1.peer.port ≤ 9223372036854775807) : Rets Tryd.prog 29 #[.pointer (some ⟨g.tb, 0, none⟩), .int .i64 p.1.id] w fun v w' => ∃ st', SesNx g st w st' w' ∧ v = .tuple #[sv p.1, .int .i64 0] ∧ st'.last = st.last ∧ st'.l = cutS st.l p.1.id :=
  let ⟨_, hf⟩ := inner_there h hp; sdrop_at ok h hp hu hbp htp hf
end Go.Proofs.YtdcnblafepgheaaDoor
