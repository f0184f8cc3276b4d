/-
  Written by a program (wip/walks).
-/
import Derived.Test.YtdcnblafepgheaaDoorS18
namespace Go.Proofs.YtdcnblafepgheaaDoor
open Go Go.V
set_option maxRecDepth 100000
def pairsM (L : List Session) : List (Int × Session) := L.map fun s => (s.id, s)
abbrev SMap (w : World) (b : Nat) (ml : List (Int × Session)) : Prop := MapAt (fun n : Int => .int .i64 n) sv inI w b ml
theorem mget_none {L : List Session} {ml : List (Int × Session)} (h : ml.Perm (pairsM L)) {k : Int} (hk : ∀ s ∈ L, s.id ≠ k) : aget ml k = none := aget_none.2 fun p hp e => by
  obtain ⟨s, hs, rfl⟩ := List.mem_map.1 (h.mem_iff.1 hp); exact hk s hs e
theorem mget_some {w : World} {b : Nat} {L : List Session} {ml : List (Int × Session)} (hm : SMap w b ml) (h : ml.Perm (pairsM L)) {s : Session} (hs : s ∈ L) : aget ml s.id = some s :=
  aget_of_mem hm.nodup (h.mem_iff.2 (List.mem_map.2 ⟨s, hs, rfl⟩))
theorem mm_add {L : List Session} {ml : List (Int × Session)} (h : ml.Perm (pairsM L)) (s : Session) : (ml ++ [(s.id, s)]).Perm (pairsM (L ++ [s])) := by
  unfold pairsM; rw [List.map_append]; exact h.append (.refl _)
theorem mm_del {L : List Session} {ml : List (Int × Session)} (h : ml.Perm (pairsM L)) (n : Int) : (adel ml n).Perm (pairsM (L.filter fun x => !decide (x.id = n))) := by
  unfold adel pairsM; have := h.filter fun p => !decide (p.1 = n); rw [pairsM, List.filter_map] at this; exact this
theorem mm_del0 {L : List Session} {ml : List (Int × Session)} (h : ml.Perm (pairsM L)) {n : Int} (hn : ∀ s ∈ L, s.id ≠ n) : (adel ml n).Perm (pairsM L) := by
  have := mm_del h n; rwa [List.filter_eq_self.2 fun x hx => by simpa using hn x hx] at this
theorem aset_map {l : List (Int × Session)} (hn : (l.map (·.1)).Nodup) {k : Int} {v0 v : Session} (h : aget l k = some v0) : aset l k v = l.map fun p => if p.1 = k then (k, v) else p := by
  induction l with
  | nil => cases h
  | cons y l ih =>
    rw [List.map_cons, List.nodup_cons] at hn
    rw [aget] at h
    rw [aset, List.map_cons]
    by_cases c : y.1 = k
    · rw [if_pos c, if_pos c]
      have : l.map (fun p => if p.1 = k then (k, v) else p) = l := by
        refine (List.map_congr_left fun p hp => ?_).trans (List.map_id l)
        rw [if_neg fun e => hn.1 (List.mem_map.2 ⟨p, hp, by rw [e, c]⟩)]; rfl
      rw [this]
    · rw [if_neg c] at h
      rw [if_neg c, if_neg c, ih hn.2 h]
theorem mm_set {w : World} {b : Nat} {L : List Session} {ml : List (Int × Session)} (hm : SMap w b ml) (h : ml.Perm (pairsM L)) {x : Session} (hx : x ∈ L) {n : Int} (hn : x.id = n) (hu : (L.map (·.id)).Nodup) (s d : Int) : (aset ml n (⟨x.id, x.binding, x.peer, s, d⟩ : Session)).Perm (pairsM (L.map fun y => if y.id = n then ⟨y.id, y.binding, y.peer, s, d⟩ else y)) := by
  subst hn
  rw [aset_map hm.nodup (mget_some hm h hx)]
  refine (h.map _).trans (List.Perm.of_eq ?_)
  unfold pairsM
  rw [List.map_map, List.map_map]
  refine List.map_congr_left fun y hy => ?_
  simp only [Function.comp_apply]
  by_cases e : y.id = x.id
  · have : y = x := by
      clear h hm
      induction L with
      | nil => cases hy
      | cons z L ih =>
        rw [List.map_cons, List.nodup_cons] at hu
        rcases List.mem_cons.1 hy with a | a <;> rcases List.mem_cons.1 hx with c | c
        · rw [a, c]
        · exact absurd (List.mem_map.2 ⟨x, c, by rw [← e, a]⟩) hu.1
        · exact absurd (List.mem_map.2 ⟨y, a, by rw [e, c]⟩) hu.1
        · exact ih c hu.2 a
    subst this; simp
  · rw [if_neg e, if_neg e]
theorem mm_pop {w : World} {b : Nat} {R : List Session} {ml : List (Int × Session)} {x : Session} (hm : SMap w b ml) (h : ml.Perm (pairsM (x :: R))) : (adel ml x.id).Perm (pairsM R) := by
  have h1 := mm_del h x.id
  have hn : ((pairsM (x :: R)).map (·.1)).Nodup := (h.map _).nodup_iff.1 hm.nodup
  unfold pairsM at hn; rw [List.map_map, List.map_cons, List.nodup_cons] at hn
  rw [List.filter_cons_of_neg (by simp), List.filter_eq_self.2 fun y hy => by simp; intro e; exact hn.1 (List.mem_map.2 ⟨y, hy, e⟩)] at h1
  exact h1
theorem part_perm {α : Type} (p q : α → Bool) (l : List α) (h : ∀ x, q x = !p x) : (l.filter p ++ l.filter q).Perm l := by
  have : l.filter q = l.filter fun x => !p x := by congr 1; funext x; exact h x
  rw [this]; exact List.filter_append_perm p l
section
variable {m : Int} {g : SesG} {c : Int} {B : Nat} {st : SesS} {w : World} {a : Sx}
theorem add_sy (h : STab m g c B a st w) (hc : 0 ≤ c ∧ c ≤ 1000000) (b : Int) (t : T4) (s d : Int) (hb : -9223372036854775808 ≤ b ∧ b ≤ 9223372036854775807) (ht : -9223372036854775808 ≤ t.port ∧ t.port ≤ 9223372036854775807) (hd : -9223372036854775808 ≤ d ∧ d ≤ 9223372036854775807) :
    Rets Tryd.prog 27 #[.pointer (some ⟨g.tb, 0, none⟩), .int .i64 b, t4 t, .int .i64 s, .int .i64 d] w fun v w' => ∃ st', (∃ r : Int, r ≠ 0 ∧ v = .tuple #[sv zeroS, .int .i64 r] ∧ SNx m g c B a st w st' w') ∨ (v = .tuple #[sv ⟨a.last + 1, b, t, s, d⟩, .int .i64 0] ∧ SNx m g c B ⟨a.last + 1, a.L ++ [⟨a.last + 1, b, t, s, d⟩]⟩ st w st' w') := by
  refine (add_sx h hc b t s d hb ht hd).mono fun v w' ⟨st', h1, h2⟩ => ⟨st', ?_⟩
  unfold addX at h1 h2
  split at h1
  · rename_i e; rw [if_pos e] at h2; exact .inl ⟨1, by decide, h1, h2⟩
  · rename_i e; rw [if_neg e] at h2
    split at h1
    · rename_i e; rw [if_pos e] at h2; exact .inl ⟨5, by decide, h1, h2⟩
    · rename_i e; rw [if_neg e] at h2
      split at h1
      · rename_i e; rw [if_pos e] at h2; exact .inl ⟨6, by decide, h1, h2⟩
      · rename_i e; rw [if_neg e] at h2; exact .inr ⟨h1, h2⟩
theorem set_sy (h : STab m g c B a st w) (n s d : Int) (hn : -9223372036854775808 ≤ n ∧ n ≤ 9223372036854775807) (hd : -9223372036854775808 ≤ d ∧ d ≤ 9223372036854775807) : Rets Tryd.prog 34 #[.pointer (some ⟨g.tb, 0, none⟩), .int .i64 n, .int .i64 s, .int .i64 d] w fun v w' => ∃ st', (∃ r : Int, r ≠ 0 ∧ v = .int .i64 r ∧ SNx m g c B a st w st' w') ∨ (∃ x ∈ a.L, x.id = n ∧ v = .int .i64 0 ∧ SNx m g c B ⟨a.last, a.L.map fun x => if x.id = n then ⟨x.id, x.binding, x.peer, s, d⟩ else x⟩ st w st' w') := by
  refine (set_sx h n s d hn hd).mono fun v w' ⟨st', h1, h2⟩ => ⟨st', ?_⟩
  unfold setX at h1 h2
  split at h1
  · rename_i e; rw [if_pos e] at h2; exact .inl ⟨1, by decide, h1, h2⟩
  · rename_i e; rw [if_neg e] at h2
    split at h1
    · rename_i e; rw [if_pos e] at h2
      obtain ⟨x, hx, e2⟩ := List.any_eq_true.1 e
      exact .inr ⟨x, hx, by simpa using e2, h1, h2⟩
    · rename_i e; rw [if_neg e] at h2; exact .inl ⟨4, by decide, h1, h2⟩
theorem drop_sy (h : STab m g c B a st w) (n : Int) (hn : -9223372036854775808 ≤ n ∧ n ≤ 9223372036854775807) : Rets Tryd.prog 29 #[.pointer (some ⟨g.tb, 0, none⟩), .int .i64 n] w fun v w' => ∃ st', (∃ r : Int, r ≠ 0 ∧ v = .tuple #[sv zeroS, .int .i64 r] ∧ (∀ s ∈ a.L, s.id ≠ n) ∧ SNx m g c B a st w st' w') ∨ (∃ x ∈ a.L, x.id = n ∧ v = .tuple #[sv x, .int .i64 0] ∧ SNx m g c B ⟨a.last, a.L.filter fun x => !decide (x.id = n)⟩ st w st' w') := by
  refine (drop_sx h n hn).mono fun v w' ⟨st', h1, h2⟩ => ⟨st', ?_⟩
  unfold dropX at h1 h2
  split at h1
  · rename_i e; rw [e] at h2; exact .inl ⟨4, by decide, h1, fun s hs e3 => by have := List.find?_eq_none.1 e s hs; simp [e3] at this, h2⟩
  · rename_i x e; rw [e] at h2; exact .inr ⟨x, List.mem_of_find?_eq_some e, by have := List.find?_some e; simpa using this, h1, h2⟩
theorem find_sy (h : STab m g c B a st w) {y : Session} (hy : y ∈ a.L) : Rets Tryd.prog 35 #[.pointer (some ⟨g.tb, 0, none⟩), .int .i64 y.binding, t4 y.peer] w fun v w' => v = .tuple #[sv y, .bool true] ∧ K0 w w' := by
  have hr := h.wf.rng y hy
  have hl : lookX a.L y.binding y.peer = some y := by
    cases hf : lookX a.L y.binding y.peer with
    | none => exact absurd ⟨rfl, rfl⟩ (lookX_none hf y hy)
    | some z =>
      have h1 := List.find?_some hf; simp only [decide_eq_true_eq] at h1
      have hz := List.mem_of_find?_eq_some hf
      have hk := h.wf.key
      generalize a.L = L at hk hy hz
      induction L with
      | nil => cases hy
      | cons q L ih =>
        rw [List.pairwise_cons] at hk
        rcases List.mem_cons.1 hy with e | e <;> rcases List.mem_cons.1 hz with f | f
        · rw [e, f]
        · exact absurd (by rw [← e]; exact h1) (hk.1 z f)
        · exact absurd (by rw [← f]; exact ⟨h1.1.symm, h1.2.symm⟩) (hk.1 y e)
        · exact ih hk.2 e f
  refine (find_sx h y.binding y.peer hr.1 hr.2).mono fun v w' ⟨h1, hk⟩ => ⟨?_, hk⟩
  rw [h1, hl]; rfl
end
theorem ids_lt {ys L : List Session} (hp : ys.Perm L) (hs : ys.Pairwise fun a b => a.id ≤ b.id) (hu : (L.map (·.id)).Nodup) {j : Nat} {x y : Session} (hx : ys[j]? = some x) (hy : ys[j + 1]? = some y) : x.id < y.id := by
  have hu2 : (ys.map (·.id)).Nodup := (hp.map _).nodup_iff.2 hu
  obtain ⟨h1, rfl⟩ := List.getElem?_eq_some_iff.1 hx
  obtain ⟨h2, rfl⟩ := List.getElem?_eq_some_iff.1 hy
  have h3 := List.pairwise_iff_getElem.1 hs j (j + 1) h1 h2 (by omega)
  have h4 : ys[j].id ≠ ys[j + 1].id := fun e => by
    have h5 := List.pairwise_iff_getElem.1 hu2 j (j + 1) (by simpa using h1) (by simpa using h2) (by omega)
    simp at h5; exact h5 e
  omega
theorem sord_at {xs : List Session} (hs : xs.Pairwise sord) {j : Nat} {x y : Session} (hx : xs[j]? = some x) (hy : xs[j + 1]? = some y) : sord x y := by
  obtain ⟨h1, rfl⟩ := List.getElem?_eq_some_iff.1 hx
  obtain ⟨h2, rfl⟩ := List.getElem?_eq_some_iff.1 hy
  exact List.pairwise_iff_getElem.1 hs j (j + 1) h1 h2 (by omega)
theorem sessionHas_nil (max : Int) (hm : -9223372036854775808 ≤ max ∧ max ≤ 9223372036854775807) {p : Option Addr} {c : Nat} {w : World} (hT : Tb w) : Rets Tryd.prog 8 #[(.int .i64 max), (.slice p 0 c)] w fun v w' => v = .bool true ∧ K0 w w' := by
  refine enter Tryd.func8 rfl Tryd.ntmps8 rfl fun Q hret hend E hE => ?_
  have g1 : E 0 = (Vi max) := hE 0
  have g2 : E 1 = (.slice p 0 c) := hE 1
  clear hE
  refine seq fun K3 hK3 => ?_
  refine reg ?_
  refine s_y (y_assign (v := Vf) rfl) rfl ?_
  refine s_nil (hK3 _ _ (genC [(0, (Vi max)), (1, (.slice p 0 c))] ⟨g1, g2, trivial⟩ ?_))
  clear hK3; rintro E ⟨g4, g5, -⟩
  refine seq fun K6 hK6 => ?_
  refine seq fun K7 hK7 => ?_
  refine reg ?_
  refine s_y (y_move (v := (Vi max)) g4) rfl ?_
  refine s_y (y_lss rfl rfl) rfl ?_
  refine s_y (y_move (v := (.bool (decide ((max : Int) < 1)))) rfl) rfl ?_
  by_cases c8 : (max : Int) < 1
  · refine s_no (.no rfl (c := true) (congrArg Value.bool (decide_eq_true c8)) rfl) rfl ?_
    refine s_no (.no rfl (c := true) (congrArg Value.bool (decide_eq_true c8)) rfl) rfl ?_
    refine s_y (y_pick_t (congrArg Value.bool (decide_eq_true c8)) (v := Vt) rfl) rfl ?_
    refine s_y (y_move (v := Vt) rfl) rfl ?_
    refine s_no (.no rfl (c := true) rfl rfl) rfl ?_
    refine s_no (.no rfl (c := true) rfl rfl) rfl ?_
    refine s_no (.no rfl (c := true) rfl rfl) rfl ?_
    refine s_y (y_pick_t rfl (v := Vt) rfl) rfl ?_
    refine s_nil (hK7 _ _ (genC [(0, (Vi max)), (1, (.slice p 0 c)), (33, Vt)] ⟨g4, g5, rfl, trivial⟩ ?_))
    clear hK7; rintro E ⟨g9, g10, g11, -⟩
    refine cond_t g11 ?_
    refine seq fun K12 hK12 => ?_
    refine reg ?_
    refine s_e (e_call ca25 (args := []) rfl (swakes_spec hT)) rfl ?_
    rintro _ w13 ⟨rfl, hk14⟩
    have ka15 : Kp (fun _ => False) w w13 := (Kp.then0 (Kp.refl _ _) hk14)
    refine s_y (y_assign (v := Vt) rfl) rfl ?_
    refine s_nil (hK12 _ _ (genC [(4, Vt)] ⟨rfl, trivial⟩ ?_))
    clear hK12; rintro E ⟨g16, -⟩
    refine ret (hret _ _ [Vt] ⟨g16, trivial⟩ ?_)
    exact ⟨rfl, ka15⟩
  · refine s_gy (.yes rfl (congrArg Value.bool (decide_eq_false c8))) (y_move (v := (Vi max)) g4) rfl ?_
    refine s_gy (.yes rfl (congrArg Value.bool (decide_eq_false c8))) (y_gtr rfl rfl) rfl ?_
    refine s_y (y_pick_f (congrArg Value.bool (decide_eq_false c8)) (v := (.bool (decide ((100 : Int) < max)))) rfl) rfl ?_
    refine s_y (y_move (v := (.bool (decide ((100 : Int) < max)))) rfl) rfl ?_
    by_cases c17 : (100 : Int) < max
    · refine s_no (.no rfl (c := true) (congrArg Value.bool (decide_eq_true c17)) rfl) rfl ?_
      refine s_no (.no rfl (c := true) (congrArg Value.bool (decide_eq_true c17)) rfl) rfl ?_
      refine s_no (.no rfl (c := true) (congrArg Value.bool (decide_eq_true c17)) rfl) rfl ?_
      refine s_y (y_pick_t (congrArg Value.bool (decide_eq_true c17)) (v := Vt) rfl) rfl ?_
      refine s_nil (hK7 _ _ (genC [(0, (Vi max)), (1, (.slice p 0 c)), (33, Vt)] ⟨g4, g5, rfl, trivial⟩ ?_))
      clear hK7; rintro E ⟨g18, g19, g20, -⟩
      refine cond_t g20 ?_
      refine seq fun K21 hK21 => ?_
      refine reg ?_
      refine s_e (e_call ca25 (args := []) rfl (swakes_spec hT)) rfl ?_
      rintro _ w22 ⟨rfl, hk23⟩
      have ka24 : Kp (fun _ => False) w w22 := (Kp.then0 (Kp.refl _ _) hk23)
      refine s_y (y_assign (v := Vt) rfl) rfl ?_
      refine s_nil (hK21 _ _ (genC [(4, Vt)] ⟨rfl, trivial⟩ ?_))
      clear hK21; rintro E ⟨g25, -⟩
      refine ret (hret _ _ [Vt] ⟨g25, trivial⟩ ?_)
      exact ⟨rfl, ka24⟩
    · refine s_gy (.yes rfl (congrArg Value.bool (decide_eq_false c17))) (y_move (v := (.slice p 0 c)) g5) rfl ?_
      refine s_gy (.yes rfl (congrArg Value.bool (decide_eq_false c17))) (y_lenS so52 rfl) rfl ?_
      refine s_gy (.yes rfl (congrArg Value.bool (decide_eq_false c17))) (y_gtr rfl rfl) rfl ?_
      refine s_y (y_pick_f (congrArg Value.bool (decide_eq_false c17)) (v := (.bool (decide ((150 : Int) < ((0 : Nat) : Int))))) rfl) rfl ?_
      refine s_nil (hK7 _ _ (genC [(0, (Vi max)), (1, (.slice p 0 c)), (33, (.bool (decide ((150 : Int) < ((0 : Nat) : Int)))))] ⟨g4, g5, rfl, trivial⟩ ?_))
      clear hK7; rintro E ⟨g26, g27, g28, -⟩
      refine cond_d g28 (fun c29 => ?_) (fun c29 => ?_)
      · refine seq fun K30 hK30 => ?_
        refine reg ?_
        refine s_e (e_call ca25 (args := []) rfl (swakes_spec hT)) rfl ?_
        rintro _ w31 ⟨rfl, hk32⟩
        have ka33 : Kp (fun _ => False) w w31 := (Kp.then0 (Kp.refl _ _) hk32)
        refine s_y (y_assign (v := Vt) rfl) rfl ?_
        refine s_nil (hK30 _ _ (genC [(4, Vt)] ⟨rfl, trivial⟩ ?_))
        clear hK30; rintro E ⟨g34, -⟩
        refine ret (hret _ _ [Vt] ⟨g34, trivial⟩ ?_)
        exact ⟨rfl, ka33⟩
      · refine skip (hK6 _ _ (genC [(0, (Vi max)), (1, (.slice p 0 c))] ⟨g26, g27, trivial⟩ ?_))
        clear hK6; rintro E ⟨g35, g36, -⟩
        refine seq fun K37 hK37 => ?_
        refine reg ?_
        refine s_y (y_move (v := (Vi max)) g35) rfl ?_
        refine s_e (e_call ca26 (args := [(Vi max)]) rfl (sesnew_spec hm hT)) rfl ?_
        rintro _ w38 ⟨⟨hx40, rfl⟩ | ⟨hx40, g, rfl, hn41⟩, hk39⟩
        · exact absurd ⟨by omega, by omega⟩ hx40
        have ht9 := NewSes.tab hn41 (by omega)
        have ka42 : Kp (fun _ => False) w w38 := (Kp.then0 (Kp.refl _ _) hk39)
        refine s_y (y_move (v := (.tuple #[(Vp g.tb 0), (Vi 0)])) rfl) rfl ?_
        refine s_y (y_ext rfl (v := (Vp g.tb 0)) rfl) rfl ?_
        refine s_y (y_ext rfl (v := (Vi 0)) rfl) rfl ?_
        refine s_y (y_assign (v := (Vp g.tb 0)) rfl) rfl ?_
        refine s_y (y_assign (v := (Vi 0)) rfl) rfl ?_
        refine s_nil (hK37 _ _ (genC [(0, (Vi max)), (1, (.slice p 0 c)), (5, (Vp g.tb 0)), (6, (Vi 0))] ⟨g35, g36, rfl, rfl, trivial⟩ ?_))
        clear hK37; rintro E ⟨g43, g44, g45, g46, -⟩
        refine seq fun K47 hK47 => ?_
        refine seq fun K48 hK48 => ?_
        refine reg ?_
        refine s_y (y_move (v := (Vi 0)) g46) rfl ?_
        refine s_y (y_neq rfl rfl) rfl ?_
        refine s_nil (hK48 _ _ (genC [(0, (Vi max)), (1, (.slice p 0 c)), (5, (Vp g.tb 0)), (41, Vf)] ⟨g43, g44, g45, rfl, trivial⟩ ?_))
        clear hK48; rintro E ⟨g49, g50, g51, g52, -⟩
        refine cond_f g52 ?_
        refine skip (hK47 _ _ (genC [(0, (Vi max)), (1, (.slice p 0 c)), (5, (Vp g.tb 0))] ⟨g49, g50, g51, trivial⟩ ?_))
        clear hK47; rintro E ⟨g53, g54, g55, -⟩
        refine seq fun K56 hK56 => ?_
        refine reg ?_
        refine s_e e_makeMap rfl ?_
        rintro _ w57 ⟨rfl, hm58, hk59⟩
        have ka60 := (Kp.then0 ka42 hk59)
        have hmm9 : SMap w57 w38.heap.size [] := MapAt.new hm58
        refine s_y (y_assign (v := (.map (some w38.heap.size))) rfl) rfl ?_
        refine s_nil (hK56 _ _ (genC [(0, (Vi max)), (1, (.slice p 0 c)), (5, (Vp g.tb 0)), (7, (.map (some w38.heap.size)))] ⟨g53, g54, g55, rfl, trivial⟩ ?_))
        clear hK56; rintro E ⟨g61, g62, g63, g64, -⟩
        refine seq fun K65 hK65 => ?_
        refine seq fun K66 hK66 => ?_
        refine reg ?_
        refine s_y (y_assign (v := (Vi 0)) rfl) rfl ?_
        refine s_nil (hK66 _ _ (genC [(0, (Vi max)), (1, (.slice p 0 c)), (5, (Vp g.tb 0)), (7, (.map (some w38.heap.size))), (8, (Vi 0))] ⟨g61, g62, g63, g64, rfl, trivial⟩ ?_))
        clear hK66; rintro E ⟨g67, g68, g69, g70, g71, -⟩
        refine block ?_
        refine loopG (X := Nat) (fun q_ E w_ => Has E [(0, (Vi max)), (1, (.slice p 0 c)), (5, (Vp g.tb 0)), (7, (.map (some w38.heap.size))), (8, (Vi (((q_ : Nat) : Int))))] ∧ Kp (fun _ => False) w57 w_ ∧ (q_ = 0)) (fun q_ => q_) 0 ⟨⟨g67, g68, g69, g70, g71, trivial⟩, Kp.refl _ _, (show 0 = 0 from rfl)⟩ ?_
        rintro i E w77 ⟨⟨g72, g73, g74, g75, g76, -⟩, hk78, hi80⟩ K79 hK79
        replace hi80 : i = 0 := hi80
        have ka81 := (Kp.then0 ka60 hk78)
        refine seq fun K82 hK82 => ?_
        refine seq fun K83 hK83 => ?_
        refine reg ?_
        refine s_y (y_move (v := (Vi (((i : Nat) : Int)))) g76) rfl ?_
        refine s_y (y_move (v := (.slice p 0 c)) g73) rfl ?_
        refine s_y (y_lenS so52 rfl) rfl ?_
        refine s_y (y_lss rfl rfl) rfl ?_
        refine s_nil (hK83 _ _ (genC [(0, (Vi max)), (1, (.slice p 0 c)), (5, (Vp g.tb 0)), (7, (.map (some w38.heap.size))), (8, (Vi (((i : Nat) : Int)))), (46, (.bool (decide ((((i : Nat) : Int) : Int) < ((0 : Nat) : Int)))))] ⟨g72, g73, g74, g75, g76, rfl, trivial⟩ ?_))
        clear hK83; rintro E ⟨g84, g85, g86, g87, g88, g89, -⟩
        refine cond_d g89 (fun c90 => ?_) (fun c90 => ?_)
        · omega
        · refine exit (hK65 _ _ (genC [] trivial ?_))
          clear hK65; rintro E -
          refine seq fun K91 hK91 => ?_
          refine reg ?_
          have hf92 := (((hT.kp hk39 id).kp hk59 id).kp hk78 id)
          refine s_e (e_call ca25 (args := []) rfl (swakes_spec hf92)) rfl ?_
          rintro _ w93 ⟨rfl, hk94⟩
          have ka95 := (Kp.then0 ka81 hk94)
          refine s_y (y_assign (v := Vt) rfl) rfl ?_
          refine s_nil (hK91 _ _ (genC [(4, Vt)] ⟨rfl, trivial⟩ ?_))
          clear hK91; rintro E ⟨g96, -⟩
          refine ret (hret _ _ [Vt] ⟨g96, trivial⟩ ?_)
          exact ⟨rfl, ka95⟩

theorem drop_at {α : Type} {l : List α} {j : Nat} {x : α} (h : l[j]? = some x) : l.drop j = x :: l.drop (j + 1) := by
  obtain ⟨h1, h2⟩ := List.getElem?_eq_some_iff.1 h; rw [← h2]; exact List.drop_eq_getElem_cons h1
theorem sessionHas_spec (max : Int) (hm : -9223372036854775808 ≤ max ∧ max ≤ 9223372036854775807) {ab ao n c : Nat} {acts : List Act} {w : World} (hn : n = acts.length) (hg : ∀ x ∈ acts, x.good) (hel : Elts Act.cs 7 w ab ao acts) (hT : Tb w) : Rets Tryd.prog 8 #[(.int .i64 max), (.slice (some ⟨ab, ao, none⟩) n c)] w fun v w' => v = .bool true ∧ K0 w w' := by
  refine enter Tryd.func8 rfl Tryd.ntmps8 rfl fun Q hret hend E hE => ?_
  have g1 : E 0 = (Vi max) := hE 0
  have g2 : E 1 = (.slice (some ⟨ab, ao, none⟩) n c) := hE 1
  clear hE
  refine seq fun K3 hK3 => ?_
  refine reg ?_
  refine s_y (y_assign (v := Vf) rfl) rfl ?_
  refine s_nil (hK3 _ _ (genC [(0, (Vi max)), (1, (.slice (some ⟨ab, ao, none⟩) n c))] ⟨g1, g2, trivial⟩ ?_))
  clear hK3; rintro E ⟨g4, g5, -⟩
  refine seq fun K6 hK6 => ?_
  refine seq fun K7 hK7 => ?_
  refine reg ?_
  refine s_y (y_move (v := (Vi max)) g4) rfl ?_
  refine s_y (y_lss rfl rfl) rfl ?_
  refine s_y (y_move (v := (.bool (decide ((max : Int) < 1)))) rfl) rfl ?_
  by_cases c8 : (max : Int) < 1
  · refine s_no (.no rfl (c := true) (congrArg Value.bool (decide_eq_true c8)) rfl) rfl ?_
    refine s_no (.no rfl (c := true) (congrArg Value.bool (decide_eq_true c8)) rfl) rfl ?_
    refine s_y (y_pick_t (congrArg Value.bool (decide_eq_true c8)) (v := Vt) rfl) rfl ?_
    refine s_y (y_move (v := Vt) rfl) rfl ?_
    refine s_no (.no rfl (c := true) rfl rfl) rfl ?_
    refine s_no (.no rfl (c := true) rfl rfl) rfl ?_
    refine s_no (.no rfl (c := true) rfl rfl) rfl ?_
    refine s_y (y_pick_t rfl (v := Vt) rfl) rfl ?_
    refine s_nil (hK7 _ _ (genC [(0, (Vi max)), (1, (.slice (some ⟨ab, ao, none⟩) n c)), (33, Vt)] ⟨g4, g5, rfl, trivial⟩ ?_))
    clear hK7; rintro E ⟨g9, g10, g11, -⟩
    refine cond_t g11 ?_
    refine seq fun K12 hK12 => ?_
    refine reg ?_
    refine s_e (e_call ca25 (args := []) rfl (swakes_spec hT)) rfl ?_
    rintro _ w13 ⟨rfl, hk14⟩
    have ka15 : Kp (fun _ => False) w w13 := (Kp.then0 (Kp.refl _ _) hk14)
    refine s_y (y_assign (v := Vt) rfl) rfl ?_
    refine s_nil (hK12 _ _ (genC [(4, Vt)] ⟨rfl, trivial⟩ ?_))
    clear hK12; rintro E ⟨g16, -⟩
    refine ret (hret _ _ [Vt] ⟨g16, trivial⟩ ?_)
    exact ⟨rfl, ka15⟩
  · refine s_gy (.yes rfl (congrArg Value.bool (decide_eq_false c8))) (y_move (v := (Vi max)) g4) rfl ?_
    refine s_gy (.yes rfl (congrArg Value.bool (decide_eq_false c8))) (y_gtr rfl rfl) rfl ?_
    refine s_y (y_pick_f (congrArg Value.bool (decide_eq_false c8)) (v := (.bool (decide ((100 : Int) < max)))) rfl) rfl ?_
    refine s_y (y_move (v := (.bool (decide ((100 : Int) < max)))) rfl) rfl ?_
    by_cases c17 : (100 : Int) < max
    · refine s_no (.no rfl (c := true) (congrArg Value.bool (decide_eq_true c17)) rfl) rfl ?_
      refine s_no (.no rfl (c := true) (congrArg Value.bool (decide_eq_true c17)) rfl) rfl ?_
      refine s_no (.no rfl (c := true) (congrArg Value.bool (decide_eq_true c17)) rfl) rfl ?_
      refine s_y (y_pick_t (congrArg Value.bool (decide_eq_true c17)) (v := Vt) rfl) rfl ?_
      refine s_nil (hK7 _ _ (genC [(0, (Vi max)), (1, (.slice (some ⟨ab, ao, none⟩) n c)), (33, Vt)] ⟨g4, g5, rfl, trivial⟩ ?_))
      clear hK7; rintro E ⟨g18, g19, g20, -⟩
      refine cond_t g20 ?_
      refine seq fun K21 hK21 => ?_
      refine reg ?_
      refine s_e (e_call ca25 (args := []) rfl (swakes_spec hT)) rfl ?_
      rintro _ w22 ⟨rfl, hk23⟩
      have ka24 : Kp (fun _ => False) w w22 := (Kp.then0 (Kp.refl _ _) hk23)
      refine s_y (y_assign (v := Vt) rfl) rfl ?_
      refine s_nil (hK21 _ _ (genC [(4, Vt)] ⟨rfl, trivial⟩ ?_))
      clear hK21; rintro E ⟨g25, -⟩
      refine ret (hret _ _ [Vt] ⟨g25, trivial⟩ ?_)
      exact ⟨rfl, ka24⟩
    · refine s_gy (.yes rfl (congrArg Value.bool (decide_eq_false c17))) (y_move (v := (.slice (some ⟨ab, ao, none⟩) n c)) g5) rfl ?_
      refine s_gy (.yes rfl (congrArg Value.bool (decide_eq_false c17))) (y_lenS so52 rfl) rfl ?_
      refine s_gy (.yes rfl (congrArg Value.bool (decide_eq_false c17))) (y_gtr rfl rfl) rfl ?_
      refine s_y (y_pick_f (congrArg Value.bool (decide_eq_false c17)) (v := (.bool (decide ((150 : Int) < ((n : Nat) : Int))))) rfl) rfl ?_
      refine s_nil (hK7 _ _ (genC [(0, (Vi max)), (1, (.slice (some ⟨ab, ao, none⟩) n c)), (33, (.bool (decide ((150 : Int) < ((n : Nat) : Int)))))] ⟨g4, g5, rfl, trivial⟩ ?_))
      clear hK7; rintro E ⟨g26, g27, g28, -⟩
      refine cond_d g28 (fun c29 => ?_) (fun c29 => ?_)
      · refine seq fun K30 hK30 => ?_
        refine reg ?_
        refine s_e (e_call ca25 (args := []) rfl (swakes_spec hT)) rfl ?_
        rintro _ w31 ⟨rfl, hk32⟩
        have ka33 : Kp (fun _ => False) w w31 := (Kp.then0 (Kp.refl _ _) hk32)
        refine s_y (y_assign (v := Vt) rfl) rfl ?_
        refine s_nil (hK30 _ _ (genC [(4, Vt)] ⟨rfl, trivial⟩ ?_))
        clear hK30; rintro E ⟨g34, -⟩
        refine ret (hret _ _ [Vt] ⟨g34, trivial⟩ ?_)
        exact ⟨rfl, ka33⟩
      · refine skip (hK6 _ _ (genC [(0, (Vi max)), (1, (.slice (some ⟨ab, ao, none⟩) n c))] ⟨g26, g27, trivial⟩ ?_))
        clear hK6; rintro E ⟨g35, g36, -⟩
        refine seq fun K37 hK37 => ?_
        refine reg ?_
        refine s_y (y_move (v := (Vi max)) g35) rfl ?_
        refine s_e (e_call ca26 (args := [(Vi max)]) rfl (sesnew_spec hm hT)) rfl ?_
        rintro _ w38 ⟨⟨hx40, rfl⟩ | ⟨hx40, g, rfl, hn41⟩, hk39⟩
        · exact absurd ⟨by omega, by omega⟩ hx40
        have ht9 := NewSes.tab hn41 (by omega)
        have ka42 : Kp (fun _ => False) w w38 := (Kp.then0 (Kp.refl _ _) hk39)
        refine s_y (y_move (v := (.tuple #[(Vp g.tb 0), (Vi 0)])) rfl) rfl ?_
        refine s_y (y_ext rfl (v := (Vp g.tb 0)) rfl) rfl ?_
        refine s_y (y_ext rfl (v := (Vi 0)) rfl) rfl ?_
        refine s_y (y_assign (v := (Vp g.tb 0)) rfl) rfl ?_
        refine s_y (y_assign (v := (Vi 0)) rfl) rfl ?_
        refine s_nil (hK37 _ _ (genC [(0, (Vi max)), (1, (.slice (some ⟨ab, ao, none⟩) n c)), (5, (Vp g.tb 0)), (6, (Vi 0))] ⟨g35, g36, rfl, rfl, trivial⟩ ?_))
        clear hK37; rintro E ⟨g43, g44, g45, g46, -⟩
        refine seq fun K47 hK47 => ?_
        refine seq fun K48 hK48 => ?_
        refine reg ?_
        refine s_y (y_move (v := (Vi 0)) g46) rfl ?_
        refine s_y (y_neq rfl rfl) rfl ?_
        refine s_nil (hK48 _ _ (genC [(0, (Vi max)), (1, (.slice (some ⟨ab, ao, none⟩) n c)), (5, (Vp g.tb 0)), (41, Vf)] ⟨g43, g44, g45, rfl, trivial⟩ ?_))
        clear hK48; rintro E ⟨g49, g50, g51, g52, -⟩
        refine cond_f g52 ?_
        refine skip (hK47 _ _ (genC [(0, (Vi max)), (1, (.slice (some ⟨ab, ao, none⟩) n c)), (5, (Vp g.tb 0))] ⟨g49, g50, g51, trivial⟩ ?_))
        clear hK47; rintro E ⟨g53, g54, g55, -⟩
        refine seq fun K56 hK56 => ?_
        refine reg ?_
        refine s_e e_makeMap rfl ?_
        rintro _ w57 ⟨rfl, hm58, hk59⟩
        have ka60 := (Kp.then0 ka42 hk59)
        have hmm9 : SMap w57 w38.heap.size [] := MapAt.new hm58
        refine s_y (y_assign (v := (.map (some w38.heap.size))) rfl) rfl ?_
        refine s_nil (hK56 _ _ (genC [(0, (Vi max)), (1, (.slice (some ⟨ab, ao, none⟩) n c)), (5, (Vp g.tb 0)), (7, (.map (some w38.heap.size)))] ⟨g53, g54, g55, rfl, trivial⟩ ?_))
        clear hK56; rintro E ⟨g61, g62, g63, g64, -⟩
        refine seq fun K65 hK65 => ?_
        refine seq fun K66 hK66 => ?_
        refine reg ?_
        refine s_y (y_assign (v := (Vi 0)) rfl) rfl ?_
        refine s_nil (hK66 _ _ (genC [(0, (Vi max)), (1, (.slice (some ⟨ab, ao, none⟩) n c)), (5, (Vp g.tb 0)), (7, (.map (some w38.heap.size))), (8, (Vi 0))] ⟨g61, g62, g63, g64, rfl, trivial⟩ ?_))
        clear hK66; rintro E ⟨g67, g68, g69, g70, g71, -⟩
        refine block ?_
        have hni72 : w38.heap.size ∉ sfp g ⟨0, [], ⟨none, [], []⟩, []⟩ := (fun e => Nat.lt_irrefl _ (nt (STab.lt ht9 _ e) (nl (Nat.le_refl _) (Nat.le_refl _))))
        have hni0 : w38.heap.size ∉ sfp g ⟨0, [], ⟨none, [], []⟩, []⟩ := hni72
        have hf73 := (STab.k0 ht9 hk59)
        refine loopG (X := Nat × Sx × SesS × List (Int × Session)) (fun q_ E w_ => Has E [(0, (Vi max)), (1, (.slice (some ⟨ab, ao, none⟩) n c)), (5, (Vp g.tb 0)), (7, (.map (some w38.heap.size))), (8, (Vi (((q_.1 : Nat) : Int))))] ∧ Kp (fun k => w.heap.size ≤ k) w57 w_ ∧ (q_.1 ≤ acts.length) ∧ (STab max g ((q_.1 : Nat) : Int) w.heap.size q_.2.1 q_.2.2.1 w_) ∧ (SMap w_ w38.heap.size q_.2.2.2) ∧ ((q_.2.2.2 : List (Int × Session)).Perm (pairsM (q_.2.1).L)) ∧ (w38.heap.size ∉ sfp g q_.2.2.1)) (fun q_ => (acts.length - q_.1)) (0, (⟨0, []⟩ : Sx), ⟨0, [], ⟨none, [], []⟩, []⟩, []) ⟨⟨g67, g68, g69, g70, g71, trivial⟩, Kp.refl _ _, (show 0 ≤ acts.length from (Nat.zero_le _)), (show STab max g ((0 : Nat) : Int) w.heap.size (⟨0, []⟩ : Sx) (⟨0, [], ⟨none, [], []⟩, []⟩) w57 from hf73), (show SMap w57 w38.heap.size ([]) from hmm9), (show ([] : List (Int × Session)).Perm (pairsM ((⟨0, []⟩ : Sx)).L) from (List.Perm.refl _)), (show w38.heap.size ∉ sfp g (⟨0, [], ⟨none, [], []⟩, []⟩) from hni0)⟩ ?_
        rintro ⟨i, a, s, ml⟩ E w79 ⟨⟨g74, g75, g76, g77, g78, -⟩, hk80, hi82, hi83, hi84, hi85, hi86⟩ K81 hK81
        replace g74 : E 0 = (Vi max) := g74
        replace g75 : E 1 = (.slice (some ⟨ab, ao, none⟩) n c) := g75
        replace g76 : E 5 = (Vp g.tb 0) := g76
        replace g77 : E 7 = (.map (some w38.heap.size)) := g77
        replace g78 : E 8 = (Vi (((i : Nat) : Int))) := g78
        replace hi82 : i ≤ acts.length := hi82
        replace hi83 : STab max g ((i : Nat) : Int) w.heap.size a s w79 := hi83
        replace hi84 : SMap w79 w38.heap.size ml := hi84
        replace hi85 : (ml : List (Int × Session)).Perm (pairsM (a).L) := hi85
        replace hi86 : w38.heap.size ∉ sfp g s := hi86
        have ka87 := (Kp.fresh ka60 hk80 fun _ e => nl (Nat.le_refl _) e)
        have hi9 := hi82; have hpm9 := hi85; have hmm8 := hi84
        refine seq fun K88 hK88 => ?_
        refine seq fun K89 hK89 => ?_
        refine reg ?_
        refine s_y (y_move (v := (Vi (((i : Nat) : Int)))) g78) rfl ?_
        refine s_y (y_move (v := (.slice (some ⟨ab, ao, none⟩) n c)) g75) rfl ?_
        refine s_y (y_lenS so52 rfl) rfl ?_
        refine s_y (y_lss rfl rfl) rfl ?_
        refine s_nil (hK89 _ _ (genC [(0, (Vi max)), (1, (.slice (some ⟨ab, ao, none⟩) n c)), (5, (Vp g.tb 0)), (7, (.map (some w38.heap.size))), (8, (Vi (((i : Nat) : Int)))), (46, (.bool (decide ((((i : Nat) : Int) : Int) < ((n : Nat) : Int)))))] ⟨g74, g75, g76, g77, g78, rfl, trivial⟩ ?_))
        clear hK89; rintro E ⟨g90, g91, g92, g93, g94, g95, -⟩
        refine cond_d g95 (fun c96 => ?_) (fun c96 => ?_)
        · obtain ⟨x9, hx9⟩ : ∃ x, acts[i]? = some x := ⟨_, List.getElem?_eq_getElem (by omega)⟩
          obtain ⟨⟨hd1, hd2⟩, ⟨hd3, hd4⟩, ⟨hd5, hd6⟩, ⟨hd7, hd8⟩, ⟨hd9, hda⟩, ⟨hdb, hdc⟩⟩ := hg x9 (List.mem_of_getElem? hx9); have hgn9 : inI x9.n := ⟨hd7, hd8⟩
          refine skip (hK88 _ _ (genC [(0, (Vi max)), (1, (.slice (some ⟨ab, ao, none⟩) n c)), (5, (Vp g.tb 0)), (7, (.map (some w38.heap.size))), (8, (Vi (((i : Nat) : Int))))] ⟨g90, g91, g92, g93, g94, trivial⟩ ?_))
          clear hK88; rintro E ⟨g97, g98, g99, g100, g101, -⟩
          refine seq fun K102 hK102 => ?_
          refine block ?_
          refine seq fun K103 hK103 => ?_
          refine reg ?_
          refine s_y (y_move (v := (.slice (some ⟨ab, ao, none⟩) n c)) g98) rfl ?_
          refine s_y (y_move (v := (Vi (((i : Nat) : Int)))) g101) rfl ?_
          refine s_y (y_idx so52 sz57 rfl (i := i) rfl (by omega)) rfl ?_
          have hf104 := (((hel.kp hk39 id).kp hk59 id).kp hk80 (Nat.not_le.2 (hel.lt)))
          refine s_y (y_load (v := (.agg #[.int .u8 (x9.do_), u8 x9.a, .int .i64 (x9.b), .int .i64 (x9.port), .int .i64 (x9.n), .int .i64 (x9.s), .int .i64 (x9.d)])) rfl (rd_el ag57 (EltsOn.now hf104) hx9 (vs := [(.int .u8 (x9.do_)), (u8 x9.a), (Vi (x9.b)), (Vi (x9.port)), (Vi (x9.n)), (Vi (x9.s)), (Vi (x9.d))]) rfl)) rfl ?_
          refine s_e (e_alloc ze57) rfl ?_
          rintro _ w105 ⟨rfl, hb106, hk107⟩
          have ka108 := (Kp.then0 ka87 hk107)
          refine s_e0 (e_storeV (cs' := #[(.int .u8 (x9.do_)), (u8 x9.a), (Vi (x9.b)), (Vi (x9.port)), (Vi (x9.n)), (Vi (x9.s)), (Vi (x9.d))]) [(.int .u8 (x9.do_)), (u8 x9.a), (Vi (x9.b)), (Vi (x9.port)), (Vi (x9.n)), (Vi (x9.s)), (Vi (x9.d))] rfl (v := (.agg #[.int .u8 (x9.do_), u8 x9.a, .int .i64 (x9.b), .int .i64 (x9.port), .int .i64 (x9.n), .int .i64 (x9.s), .int .i64 (x9.d)])) rfl rfl sz57 hb106 rfl rfl rfl) ?_
          rintro _ w109 ⟨hb110, hk111⟩
          have hz113 := (nl (nl hk39.size hk59.size) hk80.size)
          have ka112 := (Kp.fresh ka108 hk111 fun _ e => nl (nl hz113 (Nat.le_refl _)) (Nat.le_of_eq e.symm))
          refine s_nil (hK103 _ _ (genC [(0, (Vi max)), (1, (.slice (some ⟨ab, ao, none⟩) n c)), (5, (Vp g.tb 0)), (7, (.map (some w38.heap.size))), (8, (Vi (((i : Nat) : Int)))), (9, (Vp w79.heap.size 0))] ⟨g97, g98, g99, g100, g101, rfl, trivial⟩ ?_))
          clear hK103; rintro E ⟨g114, g115, g116, g117, g118, g119, -⟩
          refine seqJ (fun E w_ => Has E [(0, (Vi max)), (1, (.slice (some ⟨ab, ao, none⟩) n c)), (5, (Vp g.tb 0)), (7, (.map (some w38.heap.size))), (8, (Vi (((i : Nat) : Int))))] ∧ Kp (fun k => w.heap.size ≤ k) w79 w_ ∧ ∃ a2 s2 ml2, STab max g (((i : Nat) : Int) + 1) w.heap.size a2 s2 w_ ∧ SMap w_ w38.heap.size ml2 ∧ ml2.Perm (pairsM a2.L) ∧ w38.heap.size ∉ sfp g s2) (fun K121 hK121 => ?_) ?_
          · refine seq fun K122 hK122 => ?_
            refine reg ?_
            refine s_y (y_fld fo57_0 g119) rfl ?_
            refine s_y (y_load (v := (.int .u8 (x9.do_))) rfl (rd_sc sc5 (On.now hb110) rfl)) rfl ?_
            refine s_nil (hK122 _ _ (genC [(0, (Vi max)), (1, (.slice (some ⟨ab, ao, none⟩) n c)), (5, (Vp g.tb 0)), (7, (.map (some w38.heap.size))), (8, (Vi (((i : Nat) : Int)))), (9, (Vp w79.heap.size 0)), (54, (.int .u8 (x9.do_)))] ⟨g114, g115, g116, g117, g118, g119, rfl, trivial⟩ ?_))
            clear hK122; rintro E ⟨g123, g124, g125, g126, g127, g128, g129, -⟩
            refine block ?_
            refine seq fun K130 hK130 => ?_
            refine reg ?_
            refine s_y (y_eql g129 rfl) rfl ?_
            refine s_y (y_assign (v := (.bool (decide ((x9.do_ : Int) = 0)))) rfl) rfl ?_
            refine s_nil (hK130 _ _ (genC [(0, (Vi max)), (1, (.slice (some ⟨ab, ao, none⟩) n c)), (5, (Vp g.tb 0)), (7, (.map (some w38.heap.size))), (8, (Vi (((i : Nat) : Int)))), (9, (Vp w79.heap.size 0)), (54, (.int .u8 (x9.do_))), (55, (.bool (decide ((x9.do_ : Int) = 0))))] ⟨g123, g124, g125, g126, g127, g128, g129, rfl, trivial⟩ ?_))
            clear hK130; rintro E ⟨g131, g132, g133, g134, g135, g136, g137, g138, -⟩
            refine cond_d g138 (fun c139 => ?_) (fun c139 => ?_)
            · refine seq fun K140 hK140 => ?_
              refine regD (fun k => k ∈ sfp g s) (.take 0 (.take 1 (.take 2 (.take 3 (.take 4 (.take 5 (.take 6 (.take 8 (.take 9 (.take 10 (.take 11 (.two 7 (.two 12 (.take 13 (.take 14 (.take 15 (.one 16 (.one 17 (.take 18 .done)))))) 16 (.one 12 (.take 13 (.take 14 (.take 15 (.one 17 (.take 18 .done))))))) 16 (.one 7 (.one 12 (.take 13 (.take 14 (.take 15 (.one 17 (.take 18 .done))))))))))))))))))) mixed (by kernel_rfl) fun w141 hh142 hk143 => ?_
              have ka144 := (Kp.then0 ka112 hk143)
              refine o_y rfl (y_move (v := (Vp g.tb 0)) g133) ?_
              refine o_y rfl (y_fld fo57_2 g136) ?_
              have hni145 : w79.heap.size ∉ sfp g s := (fun e => Nat.lt_irrefl _ (nt (STab.lt hi83 _ e) (nl (Nat.le_refl _) (Nat.le_refl _))))
              refine o_y rfl (y_load (v := (Vi (x9.b))) rfl (rd_sc sc3 (On.kp (hk143.get0 hb110) hni145) rfl)) ?_
              refine o_y rfl (y_fld fo57_1 g136) ?_
              refine o_y rfl (y_load (v := (u8 x9.a)) rfl (rd_sc sc5 (On.kp (hk143.get0 hb110) hni145) rfl)) ?_
              refine o_y rfl (y_fld fo57_3 g136) ?_
              refine o_y rfl (y_load (v := (Vi (x9.port))) rfl (rd_sc sc3 (On.kp (hk143.get0 hb110) hni145) rfl)) ?_
              refine o_y rfl (y_fld fo57_5 g136) ?_
              refine o_y rfl (y_load (v := (Vi (x9.s))) rfl (rd_sc sc3 (On.kp (hk143.get0 hb110) hni145) rfl)) ?_
              refine o_y rfl (y_fld fo57_6 g136) ?_
              refine o_y rfl (y_load (v := (Vi (x9.d))) rfl (rd_sc sc3 (On.kp (hk143.get0 hb110) hni145) rfl)) ?_
              refine o_two ?_ ?_
              · refine c_e rfl (e_call ca28 (args := [(u8 x9.a), (Vi (x9.port))]) rfl (peerT_spec x9.a x9.port _)) ?_
                rintro _ w146 ⟨rfl, hk147⟩
                have ka148 := (Kp.then0 ka144 hk147)
                have ks149 : Kp (fun k => k ∈ sfp g s) w141 w146 := (Kp.then0 (Kp.refl _ _) hk147)
                refine ⟨ks149, ?_⟩
                refine o_two ?_ ?_
                · have hf150 := (STab.k0 (STab.k0 (STab.kp (STab.k0 hi83 hk107) hk111 (fun b hb => (fun e => hni145 (e ▸ hb))) (Nat.ne_of_lt (nt (nt (hT.lt) hz113) (Nat.le_refl _)))) hk143) hk147)
                  refine c_e rfl (e_call ca27 (args := [(Vp g.tb 0), (Vi (x9.b)), (.agg #[u8 9, u8 0, u8 0, u8 x9.a, .int .i64 (x9.port)]), (Vi (x9.s)), (Vi (x9.d))]) rfl (add_sy hf150 ⟨by omega, by omega⟩ x9.b ⟨⟨9, 0, 0, x9.a⟩, x9.port⟩ x9.s x9.d (by omega) ⟨hd5, hd6⟩ ⟨hdb, hdc⟩)) ?_
                  rintro _ w151 ⟨s152, ⟨r153, hr154, rfl, hn155⟩ | ⟨rfl, hn156⟩⟩
                  · have ka157 := (Kp.fresh ka148 (SNx.kp hn155) fun _ e => nl (Nat.le_refl _) (STab.ge hi83 _ e))
                    have ks158 := (Kp.trans ks149 (SNx.kp hn155) fun _ _ e => e)
                    refine ⟨ks158, ?_⟩
                    refine o_y rfl (y_move (v := (.tuple #[(sv zeroS), (Vi r153)])) rfl) ?_
                    refine o_y rfl (y_ext rfl (v := (sv zeroS)) rfl) ?_
                    refine o_y rfl (y_ext rfl (v := (Vi r153)) rfl) ?_
                    refine o_one ?_
                    refine c_e rfl (e_alloc ze59) ?_
                    rintro _ w159 ⟨rfl, hb160, hk161⟩
                    have ka162 := (Kp.then0 ka157 hk161)
                    have ks163 := (Kp.then0 ks158 hk161)
                    refine ⟨ks163, ?_⟩
                    refine o_one ?_
                    refine c_e0 rfl (e_storeV (cs' := zeroS.cs.toArray) zeroS.cs rfl (v := (sv zeroS)) rfl rfl sz59 hb160 rfl rfl rfl) ?_
                    rintro _ w164 ⟨hb165, hk166⟩
                    have hz168 := (nl (nl (nl (nl (nl hz113 hk107.size) hk111.size) hk143.size) hk147.size) (SNx.kp hn155).size)
                    have ka167 := (Kp.fresh ka162 hk166 fun _ e => nl (nl hz168 (Nat.le_refl _)) (Nat.le_of_eq e.symm))
                    have ks169 := (Kp.fresh ks163 hk166 fun _ e => nl (nl (nl hk147.size (SNx.kp hn155).size) (Nat.le_refl _)) (Nat.le_of_eq e.symm))
                    refine ⟨ks169, ?_⟩
                    refine o_y rfl (y_assign (v := (Vi r153)) rfl) ?_
                    refine o_done (hK140 _ _ (genC [(0, (Vi max)), (1, (.slice (some ⟨ab, ao, none⟩) n c)), (5, (Vp g.tb 0)), (7, (.map (some w38.heap.size))), (8, (Vi (((i : Nat) : Int)))), (10, (Vp w151.heap.size 0)), (11, (Vi r153))] ⟨g131, g132, g133, g134, g135, rfl, rfl, trivial⟩ ?_))
                    clear hK140; rintro E ⟨g170, g171, g172, g173, g174, g175, g176, -⟩
                    refine seq fun K177 hK177 => ?_
                    refine reg ?_
                    refine s_y (y_move (v := (Vi r153)) g176) rfl ?_
                    refine s_y (y_eql rfl rfl) rfl ?_
                    refine s_nil (hK177 _ _ (genC [(0, (Vi max)), (1, (.slice (some ⟨ab, ao, none⟩) n c)), (5, (Vp g.tb 0)), (7, (.map (some w38.heap.size))), (8, (Vi (((i : Nat) : Int)))), (10, (Vp w151.heap.size 0)), (74, (.bool (decide ((r153 : Int) = 0))))] ⟨g170, g171, g172, g173, g174, g175, rfl, trivial⟩ ?_))
                    clear hK177; rintro E ⟨g178, g179, g180, g181, g182, g183, g184, -⟩
                    refine cond_d g184 (fun c185 => ?_) (fun c185 => ?_)
                    · exact absurd c185 hr154
                    · have kc186 : Kp (fun k => w.heap.size ≤ k) w79 w105 := (Kp.then0 (Kp.refl _ _) hk107)
                      have kc187 : Kp (fun k => w.heap.size ≤ k) w79 w109 := (Kp.trans kc186 hk111 fun _ _ e => (fun e => nl (nl hz113 (Nat.le_refl _)) (Nat.le_of_eq e.symm)) e)
                      have kc188 : Kp (fun k => w.heap.size ≤ k) w79 w141 := (Kp.then0 kc187 hk143)
                      have kc189 : Kp (fun k => w.heap.size ≤ k) w79 w146 := (Kp.then0 kc188 hk147)
                      have kc190 : Kp (fun k => w.heap.size ≤ k) w79 w151 := (Kp.trans kc189 (SNx.kp hn155) fun _ _ e => STab.ge hi83 _ e)
                      have kc191 : Kp (fun k => w.heap.size ≤ k) w79 w159 := (Kp.then0 kc190 hk161)
                      have kc192 : Kp (fun k => w.heap.size ≤ k) w79 w164 := (Kp.trans kc191 hk166 fun _ _ e => (fun e => nl (nl hz168 (Nat.le_refl _)) (Nat.le_of_eq e.symm)) e)
                      have hni193 : w151.heap.size ∉ sfp g s152 := (fun e => Nat.lt_irrefl _ (nt (STab.lt (SNx.tab hn155) _ e) (nl (Nat.le_refl _) (Nat.le_refl _))))
                      have hf194 := (STab.kp (STab.k0 (SNx.tab hn155) hk161) hk166 (fun b hb => (fun e => hni193 (e ▸ hb))) (Nat.ne_of_lt (nt (nt (hT.lt) hz168) (Nat.le_refl _))))
                      have hz195 := (nl (nl (nl (nl hk107.size hk111.size) hk143.size) hk147.size) (SNx.kp hn155).size)
                      have hf196 := (((((((hi84.kp hk107 id).kp hk111 (Nat.ne_of_lt (nt (hi84.lt) (Nat.le_refl _)))).kp hk143 id).kp hk147 id).kp (SNx.kp hn155) hi86).kp hk161 id).kp hk166 (Nat.ne_of_lt (nt (nt (hi84.lt) hz195) (Nat.le_refl _))))
                      have hz197 := (nl (nl (nl hk107.size hk111.size) hk143.size) hk147.size)
                      have hni198 : w38.heap.size ∉ sfp g s152 := (SNx.notin hn155 hi86 (nt (hi84.lt) hz197))
                      exact skip (hK121 _ _ ⟨⟨g178, g179, g180, g181, g182, trivial⟩, kc192, _, _, _, hf194, hf196, hpm9, hni198⟩)
                  · have hfr9 : aget ml (a.last + 1) = none := mget_none hpm9 fun s hs e => by have h9 := (STab.wf hi83).ids s hs; omega
                    have hls9 := (STab.wf hi83).last
                    have ka199 := (Kp.fresh ka148 (SNx.kp hn156) fun _ e => nl (Nat.le_refl _) (STab.ge hi83 _ e))
                    have ks200 := (Kp.trans ks149 (SNx.kp hn156) fun _ _ e => e)
                    refine ⟨ks200, ?_⟩
                    refine o_y rfl (y_move (v := (.tuple #[(.agg #[.int .i64 (a.last + 1), .int .i64 (x9.b), u8 9, u8 0, u8 0, u8 x9.a, .int .i64 (x9.port), .int .i64 (x9.s), .int .i64 (x9.d)]), (Vi 0)])) rfl) ?_
                    refine o_y rfl (y_ext rfl (v := (.agg #[.int .i64 (a.last + 1), .int .i64 (x9.b), u8 9, u8 0, u8 0, u8 x9.a, .int .i64 (x9.port), .int .i64 (x9.s), .int .i64 (x9.d)])) rfl) ?_
                    refine o_y rfl (y_ext rfl (v := (Vi 0)) rfl) ?_
                    refine o_one ?_
                    refine c_e rfl (e_alloc ze59) ?_
                    rintro _ w201 ⟨rfl, hb202, hk203⟩
                    have ka204 := (Kp.then0 ka199 hk203)
                    have ks205 := (Kp.then0 ks200 hk203)
                    refine ⟨ks205, ?_⟩
                    refine o_one ?_
                    refine c_e0 rfl (e_storeV (cs' := #[(Vi (a.last + 1)), (Vi (x9.b)), (u8 9), (u8 0), (u8 0), (u8 x9.a), (Vi (x9.port)), (Vi (x9.s)), (Vi (x9.d))]) [(Vi (a.last + 1)), (Vi (x9.b)), (u8 9), (u8 0), (u8 0), (u8 x9.a), (Vi (x9.port)), (Vi (x9.s)), (Vi (x9.d))] rfl (v := (.agg #[.int .i64 (a.last + 1), .int .i64 (x9.b), u8 9, u8 0, u8 0, u8 x9.a, .int .i64 (x9.port), .int .i64 (x9.s), .int .i64 (x9.d)])) rfl rfl sz59 hb202 rfl rfl rfl) ?_
                    rintro _ w206 ⟨hb207, hk208⟩
                    have hz210 := (nl (nl (nl (nl (nl hz113 hk107.size) hk111.size) hk143.size) hk147.size) (SNx.kp hn156).size)
                    have ka209 := (Kp.fresh ka204 hk208 fun _ e => nl (nl hz210 (Nat.le_refl _)) (Nat.le_of_eq e.symm))
                    have ks211 := (Kp.fresh ks205 hk208 fun _ e => nl (nl (nl hk147.size (SNx.kp hn156).size) (Nat.le_refl _)) (Nat.le_of_eq e.symm))
                    refine ⟨ks211, ?_⟩
                    refine o_y rfl (y_assign (v := (Vi 0)) rfl) ?_
                    refine o_done (hK140 _ _ (genC [(0, (Vi max)), (1, (.slice (some ⟨ab, ao, none⟩) n c)), (5, (Vp g.tb 0)), (7, (.map (some w38.heap.size))), (8, (Vi (((i : Nat) : Int)))), (10, (Vp w151.heap.size 0)), (11, (Vi 0))] ⟨g131, g132, g133, g134, g135, rfl, rfl, trivial⟩ ?_))
                    clear hK140; rintro E ⟨g212, g213, g214, g215, g216, g217, g218, -⟩
                    refine seq fun K219 hK219 => ?_
                    refine reg ?_
                    refine s_y (y_move (v := (Vi 0)) g218) rfl ?_
                    refine s_y (y_eql rfl rfl) rfl ?_
                    refine s_nil (hK219 _ _ (genC [(0, (Vi max)), (1, (.slice (some ⟨ab, ao, none⟩) n c)), (5, (Vp g.tb 0)), (7, (.map (some w38.heap.size))), (8, (Vi (((i : Nat) : Int)))), (10, (Vp w151.heap.size 0)), (74, Vt)] ⟨g212, g213, g214, g215, g216, g217, rfl, trivial⟩ ?_))
                    clear hK219; rintro E ⟨g220, g221, g222, g223, g224, g225, g226, -⟩
                    refine cond_t g226 ?_
                    refine reg ?_
                    refine s_y (y_move (v := (.map (some w38.heap.size))) g223) rfl ?_
                    refine s_y (y_fld fo59_0 g225) rfl ?_
                    refine s_y (y_load (v := (Vi (a.last + 1))) rfl (rd_sc sc3 (On.now hb207) rfl)) rfl ?_
                    refine s_y (y_load (v := (sv (⟨a.last + 1, x9.b, (⟨(⟨9, 0, 0, x9.a⟩ : V4), x9.port⟩ : T4), x9.s, x9.d⟩ : Session))) g225 (rd_agg (vs := [(Vi (a.last + 1)), (Vi (x9.b)), (u8 9), (u8 0), (u8 0), (u8 x9.a), (Vi (x9.port)), (Vi (x9.s)), (Vi (x9.d))]) ag59 (On.now hb207) (by kernel_rfl) rfl)) rfl ?_
                    have hz227 := (nl (nl (nl (nl hk107.size hk111.size) hk143.size) hk147.size) (SNx.kp hn156).size)
                    have hf228 := (((((((hi84.kp hk107 id).kp hk111 (Nat.ne_of_lt (nt (hi84.lt) (Nat.le_refl _)))).kp hk143 id).kp hk147 id).kp (SNx.kp hn156) hi86).kp hk203 id).kp hk208 (Nat.ne_of_lt (nt (nt (hi84.lt) hz227) (Nat.le_refl _))))
                    refine s_e0 (e_mapPut kf3 Tryd.underlying73 hf228 rfl rfl (v := (⟨a.last + 1, x9.b, (⟨(⟨9, 0, 0, x9.a⟩ : V4), x9.port⟩ : T4), x9.s, x9.d⟩ : Session)) rfl (show inI (a.last + 1) from inI_of (by omega) (by omega)) hfr9) ?_
                    rintro _ w229 ⟨hm230, hk231⟩
                    have ka232 := (Kp.fresh ka209 hk231 fun _ e => nl (nl hk39.size (Nat.le_refl _)) (Nat.le_of_eq e.symm))
                    have kc233 : Kp (fun k => w.heap.size ≤ k) w79 w105 := (Kp.then0 (Kp.refl _ _) hk107)
                    have kc234 : Kp (fun k => w.heap.size ≤ k) w79 w109 := (Kp.trans kc233 hk111 fun _ _ e => (fun e => nl (nl hz113 (Nat.le_refl _)) (Nat.le_of_eq e.symm)) e)
                    have kc235 : Kp (fun k => w.heap.size ≤ k) w79 w141 := (Kp.then0 kc234 hk143)
                    have kc236 : Kp (fun k => w.heap.size ≤ k) w79 w146 := (Kp.then0 kc235 hk147)
                    have kc237 : Kp (fun k => w.heap.size ≤ k) w79 w151 := (Kp.trans kc236 (SNx.kp hn156) fun _ _ e => STab.ge hi83 _ e)
                    have kc238 : Kp (fun k => w.heap.size ≤ k) w79 w201 := (Kp.then0 kc237 hk203)
                    have kc239 : Kp (fun k => w.heap.size ≤ k) w79 w206 := (Kp.trans kc238 hk208 fun _ _ e => (fun e => nl (nl hz210 (Nat.le_refl _)) (Nat.le_of_eq e.symm)) e)
                    have kc240 : Kp (fun k => w.heap.size ≤ k) w79 w229 := (Kp.trans kc239 hk231 fun _ _ e => (fun e => nl (nl hk39.size (Nat.le_refl _)) (Nat.le_of_eq e.symm)) e)
                    have hni241 : w151.heap.size ∉ sfp g s152 := (fun e => Nat.lt_irrefl _ (nt (STab.lt (SNx.tab hn156) _ e) (nl (Nat.le_refl _) (Nat.le_refl _))))
                    have hz242 := (nl (nl (nl hk107.size hk111.size) hk143.size) hk147.size)
                    have hni243 : w38.heap.size ∉ sfp g s152 := (SNx.notin hn156 hi86 (nt (hi84.lt) hz242))
                    have hf244 := (STab.kp (STab.kp (STab.k0 (SNx.tab hn156) hk203) hk208 (fun b hb => (fun e => hni241 (e ▸ hb))) (Nat.ne_of_lt (nt (nt (hT.lt) hz210) (Nat.le_refl _)))) hk231 (fun b hb => (fun e => hni243 (e ▸ hb))) (Nat.ne_of_lt (nt (nt (hT.lt) hk39.size) (Nat.le_refl _))))
                    exact s_nil (hK121 _ _ ⟨⟨g220, g221, g222, g223, g224, trivial⟩, kc240, _, _, _, hf244, hm230, (mm_add hpm9 (⟨a.last + 1, x9.b, ⟨⟨9, 0, 0, x9.a⟩, x9.port⟩, x9.s, x9.d⟩ : Session)), hni243⟩)
                · refine c_e rfl (e_alloc ze59) ?_
                  rintro _ w245 ⟨rfl, hb246, hk247⟩
                  have ka248 := (Kp.then0 ka148 hk247)
                  have ks249 := (Kp.then0 ks149 hk247)
                  refine ⟨ks249, ?_⟩
                  refine o_one ?_
                  have hf250 := (STab.k0 (STab.k0 (STab.k0 (STab.kp (STab.k0 hi83 hk107) hk111 (fun b hb => (fun e => hni145 (e ▸ hb))) (Nat.ne_of_lt (nt (nt (hT.lt) hz113) (Nat.le_refl _)))) hk143) hk147) hk247)
                  refine c_e rfl (e_call ca27 (args := [(Vp g.tb 0), (Vi (x9.b)), (.agg #[u8 9, u8 0, u8 0, u8 x9.a, .int .i64 (x9.port)]), (Vi (x9.s)), (Vi (x9.d))]) rfl (add_sy hf250 ⟨by omega, by omega⟩ x9.b ⟨⟨9, 0, 0, x9.a⟩, x9.port⟩ x9.s x9.d (by omega) ⟨hd5, hd6⟩ ⟨hdb, hdc⟩)) ?_
                  rintro _ w251 ⟨s252, ⟨r253, hr254, rfl, hn255⟩ | ⟨rfl, hn256⟩⟩
                  · have ka257 := (Kp.fresh ka248 (SNx.kp hn255) fun _ e => nl (Nat.le_refl _) (STab.ge hi83 _ e))
                    have ks258 := (Kp.trans ks249 (SNx.kp hn255) fun _ _ e => e)
                    refine ⟨ks258, ?_⟩
                    refine o_y rfl (y_move (v := (.tuple #[(sv zeroS), (Vi r253)])) rfl) ?_
                    refine o_y rfl (y_ext rfl (v := (sv zeroS)) rfl) ?_
                    refine o_y rfl (y_ext rfl (v := (Vi r253)) rfl) ?_
                    refine o_one ?_
                    have hz259 := (nl (nl (nl hk107.size hk111.size) hk143.size) hk147.size)
                    have hni260 : w146.heap.size ∉ sfp g s := (fun e => Nat.lt_irrefl _ (nt (STab.lt hi83 _ e) (nl hz259 (Nat.le_refl _))))
                    have hb261 := ((SNx.kp hn255).get hb246 hni260)
                    refine c_e0 rfl (e_storeV (cs' := zeroS.cs.toArray) zeroS.cs rfl (v := (sv zeroS)) rfl rfl sz59 hb261 rfl rfl rfl) ?_
                    rintro _ w262 ⟨hb263, hk264⟩
                    have hz266 := (nl (nl (nl (nl hz113 hk107.size) hk111.size) hk143.size) hk147.size)
                    have ka265 := (Kp.fresh ka257 hk264 fun _ e => nl (nl hz266 (Nat.le_refl _)) (Nat.le_of_eq e.symm))
                    have ks267 := (Kp.fresh ks258 hk264 fun _ e => nl (nl hk147.size (Nat.le_refl _)) (Nat.le_of_eq e.symm))
                    refine ⟨ks267, ?_⟩
                    refine o_y rfl (y_assign (v := (Vi r253)) rfl) ?_
                    refine o_done (hK140 _ _ (genC [(0, (Vi max)), (1, (.slice (some ⟨ab, ao, none⟩) n c)), (5, (Vp g.tb 0)), (7, (.map (some w38.heap.size))), (8, (Vi (((i : Nat) : Int)))), (10, (Vp w146.heap.size 0)), (11, (Vi r253))] ⟨g131, g132, g133, g134, g135, rfl, rfl, trivial⟩ ?_))
                    clear hK140; rintro E ⟨g268, g269, g270, g271, g272, g273, g274, -⟩
                    refine seq fun K275 hK275 => ?_
                    refine reg ?_
                    refine s_y (y_move (v := (Vi r253)) g274) rfl ?_
                    refine s_y (y_eql rfl rfl) rfl ?_
                    refine s_nil (hK275 _ _ (genC [(0, (Vi max)), (1, (.slice (some ⟨ab, ao, none⟩) n c)), (5, (Vp g.tb 0)), (7, (.map (some w38.heap.size))), (8, (Vi (((i : Nat) : Int)))), (10, (Vp w146.heap.size 0)), (74, (.bool (decide ((r253 : Int) = 0))))] ⟨g268, g269, g270, g271, g272, g273, rfl, trivial⟩ ?_))
                    clear hK275; rintro E ⟨g276, g277, g278, g279, g280, g281, g282, -⟩
                    refine cond_d g282 (fun c283 => ?_) (fun c283 => ?_)
                    · exact absurd c283 hr254
                    · have kc284 : Kp (fun k => w.heap.size ≤ k) w79 w105 := (Kp.then0 (Kp.refl _ _) hk107)
                      have kc285 : Kp (fun k => w.heap.size ≤ k) w79 w109 := (Kp.trans kc284 hk111 fun _ _ e => (fun e => nl (nl hz113 (Nat.le_refl _)) (Nat.le_of_eq e.symm)) e)
                      have kc286 : Kp (fun k => w.heap.size ≤ k) w79 w141 := (Kp.then0 kc285 hk143)
                      have kc287 : Kp (fun k => w.heap.size ≤ k) w79 w146 := (Kp.then0 kc286 hk147)
                      have kc288 : Kp (fun k => w.heap.size ≤ k) w79 w245 := (Kp.then0 kc287 hk247)
                      have kc289 : Kp (fun k => w.heap.size ≤ k) w79 w251 := (Kp.trans kc288 (SNx.kp hn255) fun _ _ e => STab.ge hi83 _ e)
                      have kc290 : Kp (fun k => w.heap.size ≤ k) w79 w262 := (Kp.trans kc289 hk264 fun _ _ e => (fun e => nl (nl hz266 (Nat.le_refl _)) (Nat.le_of_eq e.symm)) e)
                      have hni291 : w146.heap.size ∉ sfp g s252 := (SNx.notin hn255 hni260 (lt_of_get hb246))
                      have hf292 := (STab.kp (SNx.tab hn255) hk264 (fun b hb => (fun e => hni291 (e ▸ hb))) (Nat.ne_of_lt (nt (nt (hT.lt) hz266) (Nat.le_refl _))))
                      have hf293 := (((((((hi84.kp hk107 id).kp hk111 (Nat.ne_of_lt (nt (hi84.lt) (Nat.le_refl _)))).kp hk143 id).kp hk147 id).kp hk247 id).kp (SNx.kp hn255) hi86).kp hk264 (Nat.ne_of_lt (nt (nt (hi84.lt) hz259) (Nat.le_refl _))))
                      have hni294 : w38.heap.size ∉ sfp g s252 := (SNx.notin hn255 hi86 (nt (hi84.lt) (nl hz259 hk247.size)))
                      exact skip (hK121 _ _ ⟨⟨g276, g277, g278, g279, g280, trivial⟩, kc290, _, _, _, hf292, hf293, hpm9, hni294⟩)
                  · have hfr9 : aget ml (a.last + 1) = none := mget_none hpm9 fun s hs e => by have h9 := (STab.wf hi83).ids s hs; omega
                    have hls9 := (STab.wf hi83).last
                    have ka295 := (Kp.fresh ka248 (SNx.kp hn256) fun _ e => nl (Nat.le_refl _) (STab.ge hi83 _ e))
                    have ks296 := (Kp.trans ks249 (SNx.kp hn256) fun _ _ e => e)
                    refine ⟨ks296, ?_⟩
                    refine o_y rfl (y_move (v := (.tuple #[(.agg #[.int .i64 (a.last + 1), .int .i64 (x9.b), u8 9, u8 0, u8 0, u8 x9.a, .int .i64 (x9.port), .int .i64 (x9.s), .int .i64 (x9.d)]), (Vi 0)])) rfl) ?_
                    refine o_y rfl (y_ext rfl (v := (.agg #[.int .i64 (a.last + 1), .int .i64 (x9.b), u8 9, u8 0, u8 0, u8 x9.a, .int .i64 (x9.port), .int .i64 (x9.s), .int .i64 (x9.d)])) rfl) ?_
                    refine o_y rfl (y_ext rfl (v := (Vi 0)) rfl) ?_
                    refine o_one ?_
                    have hz297 := (nl (nl (nl hk107.size hk111.size) hk143.size) hk147.size)
                    have hni298 : w146.heap.size ∉ sfp g s := (fun e => Nat.lt_irrefl _ (nt (STab.lt hi83 _ e) (nl hz297 (Nat.le_refl _))))
                    have hb299 := ((SNx.kp hn256).get hb246 hni298)
                    refine c_e0 rfl (e_storeV (cs' := #[(Vi (a.last + 1)), (Vi (x9.b)), (u8 9), (u8 0), (u8 0), (u8 x9.a), (Vi (x9.port)), (Vi (x9.s)), (Vi (x9.d))]) [(Vi (a.last + 1)), (Vi (x9.b)), (u8 9), (u8 0), (u8 0), (u8 x9.a), (Vi (x9.port)), (Vi (x9.s)), (Vi (x9.d))] rfl (v := (.agg #[.int .i64 (a.last + 1), .int .i64 (x9.b), u8 9, u8 0, u8 0, u8 x9.a, .int .i64 (x9.port), .int .i64 (x9.s), .int .i64 (x9.d)])) rfl rfl sz59 hb299 rfl rfl rfl) ?_
                    rintro _ w300 ⟨hb301, hk302⟩
                    have hz304 := (nl (nl (nl (nl hz113 hk107.size) hk111.size) hk143.size) hk147.size)
                    have ka303 := (Kp.fresh ka295 hk302 fun _ e => nl (nl hz304 (Nat.le_refl _)) (Nat.le_of_eq e.symm))
                    have ks305 := (Kp.fresh ks296 hk302 fun _ e => nl (nl hk147.size (Nat.le_refl _)) (Nat.le_of_eq e.symm))
                    refine ⟨ks305, ?_⟩
                    refine o_y rfl (y_assign (v := (Vi 0)) rfl) ?_
                    refine o_done (hK140 _ _ (genC [(0, (Vi max)), (1, (.slice (some ⟨ab, ao, none⟩) n c)), (5, (Vp g.tb 0)), (7, (.map (some w38.heap.size))), (8, (Vi (((i : Nat) : Int)))), (10, (Vp w146.heap.size 0)), (11, (Vi 0))] ⟨g131, g132, g133, g134, g135, rfl, rfl, trivial⟩ ?_))
                    clear hK140; rintro E ⟨g306, g307, g308, g309, g310, g311, g312, -⟩
                    refine seq fun K313 hK313 => ?_
                    refine reg ?_
                    refine s_y (y_move (v := (Vi 0)) g312) rfl ?_
                    refine s_y (y_eql rfl rfl) rfl ?_
                    refine s_nil (hK313 _ _ (genC [(0, (Vi max)), (1, (.slice (some ⟨ab, ao, none⟩) n c)), (5, (Vp g.tb 0)), (7, (.map (some w38.heap.size))), (8, (Vi (((i : Nat) : Int)))), (10, (Vp w146.heap.size 0)), (74, Vt)] ⟨g306, g307, g308, g309, g310, g311, rfl, trivial⟩ ?_))
                    clear hK313; rintro E ⟨g314, g315, g316, g317, g318, g319, g320, -⟩
                    refine cond_t g320 ?_
                    refine reg ?_
                    refine s_y (y_move (v := (.map (some w38.heap.size))) g317) rfl ?_
                    refine s_y (y_fld fo59_0 g319) rfl ?_
                    refine s_y (y_load (v := (Vi (a.last + 1))) rfl (rd_sc sc3 (On.now hb301) rfl)) rfl ?_
                    refine s_y (y_load (v := (sv (⟨a.last + 1, x9.b, (⟨(⟨9, 0, 0, x9.a⟩ : V4), x9.port⟩ : T4), x9.s, x9.d⟩ : Session))) g319 (rd_agg (vs := [(Vi (a.last + 1)), (Vi (x9.b)), (u8 9), (u8 0), (u8 0), (u8 x9.a), (Vi (x9.port)), (Vi (x9.s)), (Vi (x9.d))]) ag59 (On.now hb301) (by kernel_rfl) rfl)) rfl ?_
                    have hf321 := (((((((hi84.kp hk107 id).kp hk111 (Nat.ne_of_lt (nt (hi84.lt) (Nat.le_refl _)))).kp hk143 id).kp hk147 id).kp hk247 id).kp (SNx.kp hn256) hi86).kp hk302 (Nat.ne_of_lt (nt (nt (hi84.lt) hz297) (Nat.le_refl _))))
                    refine s_e0 (e_mapPut kf3 Tryd.underlying73 hf321 rfl rfl (v := (⟨a.last + 1, x9.b, (⟨(⟨9, 0, 0, x9.a⟩ : V4), x9.port⟩ : T4), x9.s, x9.d⟩ : Session)) rfl (show inI (a.last + 1) from inI_of (by omega) (by omega)) hfr9) ?_
                    rintro _ w322 ⟨hm323, hk324⟩
                    have ka325 := (Kp.fresh ka303 hk324 fun _ e => nl (nl hk39.size (Nat.le_refl _)) (Nat.le_of_eq e.symm))
                    have kc326 : Kp (fun k => w.heap.size ≤ k) w79 w105 := (Kp.then0 (Kp.refl _ _) hk107)
                    have kc327 : Kp (fun k => w.heap.size ≤ k) w79 w109 := (Kp.trans kc326 hk111 fun _ _ e => (fun e => nl (nl hz113 (Nat.le_refl _)) (Nat.le_of_eq e.symm)) e)
                    have kc328 : Kp (fun k => w.heap.size ≤ k) w79 w141 := (Kp.then0 kc327 hk143)
                    have kc329 : Kp (fun k => w.heap.size ≤ k) w79 w146 := (Kp.then0 kc328 hk147)
                    have kc330 : Kp (fun k => w.heap.size ≤ k) w79 w245 := (Kp.then0 kc329 hk247)
                    have kc331 : Kp (fun k => w.heap.size ≤ k) w79 w251 := (Kp.trans kc330 (SNx.kp hn256) fun _ _ e => STab.ge hi83 _ e)
                    have kc332 : Kp (fun k => w.heap.size ≤ k) w79 w300 := (Kp.trans kc331 hk302 fun _ _ e => (fun e => nl (nl hz304 (Nat.le_refl _)) (Nat.le_of_eq e.symm)) e)
                    have kc333 : Kp (fun k => w.heap.size ≤ k) w79 w322 := (Kp.trans kc332 hk324 fun _ _ e => (fun e => nl (nl hk39.size (Nat.le_refl _)) (Nat.le_of_eq e.symm)) e)
                    have hni334 : w146.heap.size ∉ sfp g s252 := (SNx.notin hn256 hni298 (lt_of_get hb246))
                    have hni335 : w38.heap.size ∉ sfp g s252 := (SNx.notin hn256 hi86 (nt (hi84.lt) (nl hz297 hk247.size)))
                    have hf336 := (STab.kp (STab.kp (SNx.tab hn256) hk302 (fun b hb => (fun e => hni334 (e ▸ hb))) (Nat.ne_of_lt (nt (nt (hT.lt) hz304) (Nat.le_refl _)))) hk324 (fun b hb => (fun e => hni335 (e ▸ hb))) (Nat.ne_of_lt (nt (nt (hT.lt) hk39.size) (Nat.le_refl _))))
                    exact s_nil (hK121 _ _ ⟨⟨g314, g315, g316, g317, g318, trivial⟩, kc333, _, _, _, hf336, hm323, (mm_add hpm9 (⟨a.last + 1, x9.b, ⟨⟨9, 0, 0, x9.a⟩, x9.port⟩, x9.s, x9.d⟩ : Session)), hni335⟩)
              · refine c_e rfl (e_alloc ze59) ?_
                rintro _ w337 ⟨rfl, hb338, hk339⟩
                have ka340 := (Kp.then0 ka144 hk339)
                have ks341 : Kp (fun k => k ∈ sfp g s) w141 w337 := (Kp.then0 (Kp.refl _ _) hk339)
                refine ⟨ks341, ?_⟩
                refine o_one ?_
                refine c_e rfl (e_call ca28 (args := [(u8 x9.a), (Vi (x9.port))]) rfl (peerT_spec x9.a x9.port _)) ?_
                rintro _ w342 ⟨rfl, hk343⟩
                have ka344 := (Kp.then0 ka340 hk343)
                have ks345 := (Kp.then0 ks341 hk343)
                refine ⟨ks345, ?_⟩
                refine o_one ?_
                have hf346 := (STab.k0 (STab.k0 (STab.k0 (STab.kp (STab.k0 hi83 hk107) hk111 (fun b hb => (fun e => hni145 (e ▸ hb))) (Nat.ne_of_lt (nt (nt (hT.lt) hz113) (Nat.le_refl _)))) hk143) hk339) hk343)
                refine c_e rfl (e_call ca27 (args := [(Vp g.tb 0), (Vi (x9.b)), (.agg #[u8 9, u8 0, u8 0, u8 x9.a, .int .i64 (x9.port)]), (Vi (x9.s)), (Vi (x9.d))]) rfl (add_sy hf346 ⟨by omega, by omega⟩ x9.b ⟨⟨9, 0, 0, x9.a⟩, x9.port⟩ x9.s x9.d (by omega) ⟨hd5, hd6⟩ ⟨hdb, hdc⟩)) ?_
                rintro _ w347 ⟨s348, ⟨r349, hr350, rfl, hn351⟩ | ⟨rfl, hn352⟩⟩
                · have ka353 := (Kp.fresh ka344 (SNx.kp hn351) fun _ e => nl (Nat.le_refl _) (STab.ge hi83 _ e))
                  have ks354 := (Kp.trans ks345 (SNx.kp hn351) fun _ _ e => e)
                  refine ⟨ks354, ?_⟩
                  refine o_y rfl (y_move (v := (.tuple #[(sv zeroS), (Vi r349)])) rfl) ?_
                  refine o_y rfl (y_ext rfl (v := (sv zeroS)) rfl) ?_
                  refine o_y rfl (y_ext rfl (v := (Vi r349)) rfl) ?_
                  refine o_one ?_
                  have hz355 := (nl (nl hk107.size hk111.size) hk143.size)
                  have hni356 : w141.heap.size ∉ sfp g s := (fun e => Nat.lt_irrefl _ (nt (STab.lt hi83 _ e) (nl hz355 (Nat.le_refl _))))
                  have hb357 := ((SNx.kp hn351).get (hk343.get0 hb338) hni356)
                  refine c_e0 rfl (e_storeV (cs' := zeroS.cs.toArray) zeroS.cs rfl (v := (sv zeroS)) rfl rfl sz59 hb357 rfl rfl rfl) ?_
                  rintro _ w358 ⟨hb359, hk360⟩
                  have hz362 := (nl (nl (nl hz113 hk107.size) hk111.size) hk143.size)
                  have ka361 := (Kp.fresh ka353 hk360 fun _ e => nl (nl hz362 (Nat.le_refl _)) (Nat.le_of_eq e.symm))
                  have ks363 := (Kp.fresh ks354 hk360 fun _ e => nl (nl (Nat.le_refl _) (Nat.le_refl _)) (Nat.le_of_eq e.symm))
                  refine ⟨ks363, ?_⟩
                  refine o_y rfl (y_assign (v := (Vi r349)) rfl) ?_
                  refine o_done (hK140 _ _ (genC [(0, (Vi max)), (1, (.slice (some ⟨ab, ao, none⟩) n c)), (5, (Vp g.tb 0)), (7, (.map (some w38.heap.size))), (8, (Vi (((i : Nat) : Int)))), (10, (Vp w141.heap.size 0)), (11, (Vi r349))] ⟨g131, g132, g133, g134, g135, rfl, rfl, trivial⟩ ?_))
                  clear hK140; rintro E ⟨g364, g365, g366, g367, g368, g369, g370, -⟩
                  refine seq fun K371 hK371 => ?_
                  refine reg ?_
                  refine s_y (y_move (v := (Vi r349)) g370) rfl ?_
                  refine s_y (y_eql rfl rfl) rfl ?_
                  refine s_nil (hK371 _ _ (genC [(0, (Vi max)), (1, (.slice (some ⟨ab, ao, none⟩) n c)), (5, (Vp g.tb 0)), (7, (.map (some w38.heap.size))), (8, (Vi (((i : Nat) : Int)))), (10, (Vp w141.heap.size 0)), (74, (.bool (decide ((r349 : Int) = 0))))] ⟨g364, g365, g366, g367, g368, g369, rfl, trivial⟩ ?_))
                  clear hK371; rintro E ⟨g372, g373, g374, g375, g376, g377, g378, -⟩
                  refine cond_d g378 (fun c379 => ?_) (fun c379 => ?_)
                  · exact absurd c379 hr350
                  · have kc380 : Kp (fun k => w.heap.size ≤ k) w79 w105 := (Kp.then0 (Kp.refl _ _) hk107)
                    have kc381 : Kp (fun k => w.heap.size ≤ k) w79 w109 := (Kp.trans kc380 hk111 fun _ _ e => (fun e => nl (nl hz113 (Nat.le_refl _)) (Nat.le_of_eq e.symm)) e)
                    have kc382 : Kp (fun k => w.heap.size ≤ k) w79 w141 := (Kp.then0 kc381 hk143)
                    have kc383 : Kp (fun k => w.heap.size ≤ k) w79 w337 := (Kp.then0 kc382 hk339)
                    have kc384 : Kp (fun k => w.heap.size ≤ k) w79 w342 := (Kp.then0 kc383 hk343)
                    have kc385 : Kp (fun k => w.heap.size ≤ k) w79 w347 := (Kp.trans kc384 (SNx.kp hn351) fun _ _ e => STab.ge hi83 _ e)
                    have kc386 : Kp (fun k => w.heap.size ≤ k) w79 w358 := (Kp.trans kc385 hk360 fun _ _ e => (fun e => nl (nl hz362 (Nat.le_refl _)) (Nat.le_of_eq e.symm)) e)
                    have hni387 : w141.heap.size ∉ sfp g s348 := (SNx.notin hn351 hni356 (nt (lt_of_get hb338) hk343.size))
                    have hf388 := (STab.kp (SNx.tab hn351) hk360 (fun b hb => (fun e => hni387 (e ▸ hb))) (Nat.ne_of_lt (nt (nt (hT.lt) hz362) (Nat.le_refl _))))
                    have hf389 := (((((((hi84.kp hk107 id).kp hk111 (Nat.ne_of_lt (nt (hi84.lt) (Nat.le_refl _)))).kp hk143 id).kp hk339 id).kp hk343 id).kp (SNx.kp hn351) hi86).kp hk360 (Nat.ne_of_lt (nt (nt (hi84.lt) hz355) (Nat.le_refl _))))
                    have hz390 := (nl (nl hz355 hk339.size) hk343.size)
                    have hni391 : w38.heap.size ∉ sfp g s348 := (SNx.notin hn351 hi86 (nt (hi84.lt) hz390))
                    exact skip (hK121 _ _ ⟨⟨g372, g373, g374, g375, g376, trivial⟩, kc386, _, _, _, hf388, hf389, hpm9, hni391⟩)
                · have hfr9 : aget ml (a.last + 1) = none := mget_none hpm9 fun s hs e => by have h9 := (STab.wf hi83).ids s hs; omega
                  have hls9 := (STab.wf hi83).last
                  have ka392 := (Kp.fresh ka344 (SNx.kp hn352) fun _ e => nl (Nat.le_refl _) (STab.ge hi83 _ e))
                  have ks393 := (Kp.trans ks345 (SNx.kp hn352) fun _ _ e => e)
                  refine ⟨ks393, ?_⟩
                  refine o_y rfl (y_move (v := (.tuple #[(.agg #[.int .i64 (a.last + 1), .int .i64 (x9.b), u8 9, u8 0, u8 0, u8 x9.a, .int .i64 (x9.port), .int .i64 (x9.s), .int .i64 (x9.d)]), (Vi 0)])) rfl) ?_
                  refine o_y rfl (y_ext rfl (v := (.agg #[.int .i64 (a.last + 1), .int .i64 (x9.b), u8 9, u8 0, u8 0, u8 x9.a, .int .i64 (x9.port), .int .i64 (x9.s), .int .i64 (x9.d)])) rfl) ?_
                  refine o_y rfl (y_ext rfl (v := (Vi 0)) rfl) ?_
                  refine o_one ?_
                  have hz394 := (nl (nl hk107.size hk111.size) hk143.size)
                  have hni395 : w141.heap.size ∉ sfp g s := (fun e => Nat.lt_irrefl _ (nt (STab.lt hi83 _ e) (nl hz394 (Nat.le_refl _))))
                  have hb396 := ((SNx.kp hn352).get (hk343.get0 hb338) hni395)
                  refine c_e0 rfl (e_storeV (cs' := #[(Vi (a.last + 1)), (Vi (x9.b)), (u8 9), (u8 0), (u8 0), (u8 x9.a), (Vi (x9.port)), (Vi (x9.s)), (Vi (x9.d))]) [(Vi (a.last + 1)), (Vi (x9.b)), (u8 9), (u8 0), (u8 0), (u8 x9.a), (Vi (x9.port)), (Vi (x9.s)), (Vi (x9.d))] rfl (v := (.agg #[.int .i64 (a.last + 1), .int .i64 (x9.b), u8 9, u8 0, u8 0, u8 x9.a, .int .i64 (x9.port), .int .i64 (x9.s), .int .i64 (x9.d)])) rfl rfl sz59 hb396 rfl rfl rfl) ?_
                  rintro _ w397 ⟨hb398, hk399⟩
                  have hz401 := (nl (nl (nl hz113 hk107.size) hk111.size) hk143.size)
                  have ka400 := (Kp.fresh ka392 hk399 fun _ e => nl (nl hz401 (Nat.le_refl _)) (Nat.le_of_eq e.symm))
                  have ks402 := (Kp.fresh ks393 hk399 fun _ e => nl (nl (Nat.le_refl _) (Nat.le_refl _)) (Nat.le_of_eq e.symm))
                  refine ⟨ks402, ?_⟩
                  refine o_y rfl (y_assign (v := (Vi 0)) rfl) ?_
                  refine o_done (hK140 _ _ (genC [(0, (Vi max)), (1, (.slice (some ⟨ab, ao, none⟩) n c)), (5, (Vp g.tb 0)), (7, (.map (some w38.heap.size))), (8, (Vi (((i : Nat) : Int)))), (10, (Vp w141.heap.size 0)), (11, (Vi 0))] ⟨g131, g132, g133, g134, g135, rfl, rfl, trivial⟩ ?_))
                  clear hK140; rintro E ⟨g403, g404, g405, g406, g407, g408, g409, -⟩
                  refine seq fun K410 hK410 => ?_
                  refine reg ?_
                  refine s_y (y_move (v := (Vi 0)) g409) rfl ?_
                  refine s_y (y_eql rfl rfl) rfl ?_
                  refine s_nil (hK410 _ _ (genC [(0, (Vi max)), (1, (.slice (some ⟨ab, ao, none⟩) n c)), (5, (Vp g.tb 0)), (7, (.map (some w38.heap.size))), (8, (Vi (((i : Nat) : Int)))), (10, (Vp w141.heap.size 0)), (74, Vt)] ⟨g403, g404, g405, g406, g407, g408, rfl, trivial⟩ ?_))
                  clear hK410; rintro E ⟨g411, g412, g413, g414, g415, g416, g417, -⟩
                  refine cond_t g417 ?_
                  refine reg ?_
                  refine s_y (y_move (v := (.map (some w38.heap.size))) g414) rfl ?_
                  refine s_y (y_fld fo59_0 g416) rfl ?_
                  refine s_y (y_load (v := (Vi (a.last + 1))) rfl (rd_sc sc3 (On.now hb398) rfl)) rfl ?_
                  refine s_y (y_load (v := (sv (⟨a.last + 1, x9.b, (⟨(⟨9, 0, 0, x9.a⟩ : V4), x9.port⟩ : T4), x9.s, x9.d⟩ : Session))) g416 (rd_agg (vs := [(Vi (a.last + 1)), (Vi (x9.b)), (u8 9), (u8 0), (u8 0), (u8 x9.a), (Vi (x9.port)), (Vi (x9.s)), (Vi (x9.d))]) ag59 (On.now hb398) (by kernel_rfl) rfl)) rfl ?_
                  have hf418 := (((((((hi84.kp hk107 id).kp hk111 (Nat.ne_of_lt (nt (hi84.lt) (Nat.le_refl _)))).kp hk143 id).kp hk339 id).kp hk343 id).kp (SNx.kp hn352) hi86).kp hk399 (Nat.ne_of_lt (nt (nt (hi84.lt) hz394) (Nat.le_refl _))))
                  refine s_e0 (e_mapPut kf3 Tryd.underlying73 hf418 rfl rfl (v := (⟨a.last + 1, x9.b, (⟨(⟨9, 0, 0, x9.a⟩ : V4), x9.port⟩ : T4), x9.s, x9.d⟩ : Session)) rfl (show inI (a.last + 1) from inI_of (by omega) (by omega)) hfr9) ?_
                  rintro _ w419 ⟨hm420, hk421⟩
                  have ka422 := (Kp.fresh ka400 hk421 fun _ e => nl (nl hk39.size (Nat.le_refl _)) (Nat.le_of_eq e.symm))
                  have kc423 : Kp (fun k => w.heap.size ≤ k) w79 w105 := (Kp.then0 (Kp.refl _ _) hk107)
                  have kc424 : Kp (fun k => w.heap.size ≤ k) w79 w109 := (Kp.trans kc423 hk111 fun _ _ e => (fun e => nl (nl hz113 (Nat.le_refl _)) (Nat.le_of_eq e.symm)) e)
                  have kc425 : Kp (fun k => w.heap.size ≤ k) w79 w141 := (Kp.then0 kc424 hk143)
                  have kc426 : Kp (fun k => w.heap.size ≤ k) w79 w337 := (Kp.then0 kc425 hk339)
                  have kc427 : Kp (fun k => w.heap.size ≤ k) w79 w342 := (Kp.then0 kc426 hk343)
                  have kc428 : Kp (fun k => w.heap.size ≤ k) w79 w347 := (Kp.trans kc427 (SNx.kp hn352) fun _ _ e => STab.ge hi83 _ e)
                  have kc429 : Kp (fun k => w.heap.size ≤ k) w79 w397 := (Kp.trans kc428 hk399 fun _ _ e => (fun e => nl (nl hz401 (Nat.le_refl _)) (Nat.le_of_eq e.symm)) e)
                  have kc430 : Kp (fun k => w.heap.size ≤ k) w79 w419 := (Kp.trans kc429 hk421 fun _ _ e => (fun e => nl (nl hk39.size (Nat.le_refl _)) (Nat.le_of_eq e.symm)) e)
                  have hni431 : w141.heap.size ∉ sfp g s348 := (SNx.notin hn352 hni395 (nt (lt_of_get hb338) hk343.size))
                  have hz432 := (nl (nl hz394 hk339.size) hk343.size)
                  have hni433 : w38.heap.size ∉ sfp g s348 := (SNx.notin hn352 hi86 (nt (hi84.lt) hz432))
                  have hf434 := (STab.kp (STab.kp (SNx.tab hn352) hk399 (fun b hb => (fun e => hni431 (e ▸ hb))) (Nat.ne_of_lt (nt (nt (hT.lt) hz401) (Nat.le_refl _)))) hk421 (fun b hb => (fun e => hni433 (e ▸ hb))) (Nat.ne_of_lt (nt (nt (hT.lt) hk39.size) (Nat.le_refl _))))
                  exact s_nil (hK121 _ _ ⟨⟨g411, g412, g413, g414, g415, trivial⟩, kc430, _, _, _, hf434, hm420, (mm_add hpm9 (⟨a.last + 1, x9.b, ⟨⟨9, 0, 0, x9.a⟩, x9.port⟩, x9.s, x9.d⟩ : Session)), hni433⟩)
            · refine seq fun K435 hK435 => ?_
              refine seq fun K436 hK436 => ?_
              refine reg ?_
              refine s_y (y_eql g137 rfl) rfl ?_
              refine s_y (y_assign (v := (.bool (decide ((x9.do_ : Int) = 1)))) rfl) rfl ?_
              refine s_nil (hK436 _ _ (genC [(0, (Vi max)), (1, (.slice (some ⟨ab, ao, none⟩) n c)), (5, (Vp g.tb 0)), (7, (.map (some w38.heap.size))), (8, (Vi (((i : Nat) : Int)))), (9, (Vp w79.heap.size 0)), (54, (.int .u8 (x9.do_))), (79, (.bool (decide ((x9.do_ : Int) = 1))))] ⟨g131, g132, g133, g134, g135, g136, g137, rfl, trivial⟩ ?_))
              clear hK436; rintro E ⟨g437, g438, g439, g440, g441, g442, g443, g444, -⟩
              refine cond_d g444 (fun c445 => ?_) (fun c445 => ?_)
              · refine skip (hK435 _ _ (genC [(0, (Vi max)), (1, (.slice (some ⟨ab, ao, none⟩) n c)), (5, (Vp g.tb 0)), (7, (.map (some w38.heap.size))), (8, (Vi (((i : Nat) : Int)))), (9, (Vp w79.heap.size 0)), (54, (.int .u8 (x9.do_))), (79, Vt)] ⟨g437, g438, g439, g440, g441, g442, g443, (Eq.trans g444 (congrArg Value.bool (decide_eq_true c445))), trivial⟩ ?_))
                clear hK435; rintro E ⟨g446, g447, g448, g449, g450, g451, g452, g453, -⟩
                refine cond_t g453 ?_
                refine seq fun K454 hK454 => ?_
                refine reg ?_
                refine s_y (y_move (v := (Vp g.tb 0)) g448) rfl ?_
                refine s_y (y_fld fo57_4 g451) rfl ?_
                refine s_y (y_load (v := (Vi (x9.n))) rfl (rd_sc sc3 (On.now hb110) rfl)) rfl ?_
                refine s_y (y_fld fo57_5 g451) rfl ?_
                refine s_y (y_load (v := (Vi (x9.s))) rfl (rd_sc sc3 (On.now hb110) rfl)) rfl ?_
                refine s_y (y_fld fo57_6 g451) rfl ?_
                refine s_y (y_load (v := (Vi (x9.d))) rfl (rd_sc sc3 (On.now hb110) rfl)) rfl ?_
                have hni455 : w79.heap.size ∉ sfp g s := (fun e => Nat.lt_irrefl _ (nt (STab.lt hi83 _ e) (nl (Nat.le_refl _) (Nat.le_refl _))))
                have hf456 := (STab.kp (STab.k0 hi83 hk107) hk111 (fun b hb => (fun e => hni455 (e ▸ hb))) (Nat.ne_of_lt (nt (nt (hT.lt) hz113) (Nat.le_refl _))))
                refine s_e (e_call ca34 (args := [(Vp g.tb 0), (Vi (x9.n)), (Vi (x9.s)), (Vi (x9.d))]) rfl (set_sy hf456 x9.n x9.s x9.d ⟨hd7, hd8⟩ ⟨hdb, hdc⟩)) rfl ?_
                rintro _ w457 ⟨s458, ⟨r459, hr460, rfl, hn461⟩ | ⟨x8, hx8, hxn8, rfl, hn462⟩⟩
                · have ka463 := (Kp.fresh ka112 (SNx.kp hn461) fun _ e => nl (Nat.le_refl _) (STab.ge hi83 _ e))
                  refine s_y (y_eql rfl rfl) rfl ?_
                  refine s_nil (hK454 _ _ (genC [(0, (Vi max)), (1, (.slice (some ⟨ab, ao, none⟩) n c)), (5, (Vp g.tb 0)), (7, (.map (some w38.heap.size))), (8, (Vi (((i : Nat) : Int)))), (9, (Vp w79.heap.size 0)), (90, (.bool (decide ((r459 : Int) = 0))))] ⟨g446, g447, g448, g449, g450, g451, rfl, trivial⟩ ?_))
                  clear hK454; rintro E ⟨g464, g465, g466, g467, g468, g469, g470, -⟩
                  refine cond_d g470 (fun c471 => ?_) (fun c471 => ?_)
                  · exact absurd c471 hr460
                  · have kc472 : Kp (fun k => w.heap.size ≤ k) w79 w105 := (Kp.then0 (Kp.refl _ _) hk107)
                    have kc473 : Kp (fun k => w.heap.size ≤ k) w79 w109 := (Kp.trans kc472 hk111 fun _ _ e => (fun e => nl (nl hz113 (Nat.le_refl _)) (Nat.le_of_eq e.symm)) e)
                    have kc474 : Kp (fun k => w.heap.size ≤ k) w79 w457 := (Kp.trans kc473 (SNx.kp hn461) fun _ _ e => STab.ge hi83 _ e)
                    have hf475 := (((hi84.kp hk107 id).kp hk111 (Nat.ne_of_lt (nt (hi84.lt) (Nat.le_refl _)))).kp (SNx.kp hn461) hi86)
                    have hni476 : w38.heap.size ∉ sfp g s458 := (SNx.notin hn461 hi86 (nt (hi84.lt) (nl hk107.size hk111.size)))
                    exact skip (hK121 _ _ ⟨⟨g464, g465, g466, g467, g468, trivial⟩, kc474, _, _, _, (SNx.tab hn461), hf475, hpm9, hni476⟩)
                · have hag9 := mget_some hmm8 hpm9 hx8; rw [hxn8] at hag9
                  have ka477 := (Kp.fresh ka112 (SNx.kp hn462) fun _ e => nl (Nat.le_refl _) (STab.ge hi83 _ e))
                  refine s_y (y_eql rfl rfl) rfl ?_
                  refine s_nil (hK454 _ _ (genC [(0, (Vi max)), (1, (.slice (some ⟨ab, ao, none⟩) n c)), (5, (Vp g.tb 0)), (7, (.map (some w38.heap.size))), (8, (Vi (((i : Nat) : Int)))), (9, (Vp w79.heap.size 0)), (90, Vt)] ⟨g446, g447, g448, g449, g450, g451, rfl, trivial⟩ ?_))
                  clear hK454; rintro E ⟨g478, g479, g480, g481, g482, g483, g484, -⟩
                  refine cond_t g484 ?_
                  refine seq fun K485 hK485 => ?_
                  refine reg ?_
                  refine s_y (y_move (v := (.map (some w38.heap.size))) g481) rfl ?_
                  refine s_y (y_fld fo57_4 g483) rfl ?_
                  have hb486 := ((SNx.kp hn462).get hb110 hni455)
                  refine s_y (y_load (v := (Vi (x9.n))) rfl (rd_sc sc3 (On.now hb486) rfl)) rfl ?_
                  have hf487 := (((hi84.kp hk107 id).kp hk111 (Nat.ne_of_lt (nt (hi84.lt) (Nat.le_refl _)))).kp (SNx.kp hn462) hi86)
                  refine s_y (y_lookup_some kf3 Tryd.underlying73 ze59 (MapOn.now hf487) rfl rfl (show inI x9.n from inI_of (by omega) (by omega)) hag9) rfl ?_
                  refine s_e (e_alloc ze59) rfl ?_
                  rintro _ w488 ⟨rfl, hb489, hk490⟩
                  have ka491 := (Kp.then0 ka477 hk490)
                  refine s_e0 (e_storeV (cs' := x8.cs.toArray) x8.cs rfl (v := (sv x8)) rfl rfl sz59 hb489 rfl rfl rfl) ?_
                  rintro _ w492 ⟨hb493, hk494⟩
                  have hz496 := (nl (nl (nl hz113 hk107.size) hk111.size) (SNx.kp hn462).size)
                  have ka495 := (Kp.fresh ka491 hk494 fun _ e => nl (nl hz496 (Nat.le_refl _)) (Nat.le_of_eq e.symm))
                  refine s_nil (hK485 _ _ (genC [(0, (Vi max)), (1, (.slice (some ⟨ab, ao, none⟩) n c)), (5, (Vp g.tb 0)), (7, (.map (some w38.heap.size))), (8, (Vi (((i : Nat) : Int)))), (9, (Vp w79.heap.size 0)), (12, (Vp w457.heap.size 0))] ⟨g478, g479, g480, g481, g482, g483, rfl, trivial⟩ ?_))
                  clear hK485; rintro E ⟨g497, g498, g499, g500, g501, g502, g503, -⟩
                  refine seq fun K504 hK504 => ?_
                  refine reg ?_
                  refine s_y (y_fld fo57_5 g502) rfl ?_
                  have hb505 := (hk494.get (hk490.get0 hb486) (Nat.ne_of_lt (nt (lt_of_get hb486) (Nat.le_refl _))))
                  refine s_y (y_load (v := (Vi (x9.s))) rfl (rd_sc sc3 (On.now hb505) rfl)) rfl ?_
                  refine s_y (y_fld fo59_3 g503) rfl ?_
                  refine s_e0 (e_storeV (cs' := #[(Vi (x8.id)), (Vi (x8.binding)), (u8 x8.peer.addr.a), (u8 x8.peer.addr.b), (u8 x8.peer.addr.c), (u8 x8.peer.addr.d), (Vi (x8.peer.port)), (Vi (x9.s)), (Vi (x8.due))]) [(Vi (x9.s))] rfl (v := (Vi (x9.s))) rfl rfl sz3 hb493 rfl rfl rfl) ?_
                  rintro _ w506 ⟨hb507, hk508⟩
                  have ka509 := (Kp.fresh ka495 hk508 fun _ e => nl (nl hz496 (Nat.le_refl _)) (Nat.le_of_eq e.symm))
                  refine s_nil (hK504 _ _ (genC [(0, (Vi max)), (1, (.slice (some ⟨ab, ao, none⟩) n c)), (5, (Vp g.tb 0)), (7, (.map (some w38.heap.size))), (8, (Vi (((i : Nat) : Int)))), (9, (Vp w79.heap.size 0)), (12, (Vp w457.heap.size 0))] ⟨g497, g498, g499, g500, g501, g502, g503, trivial⟩ ?_))
                  clear hK504; rintro E ⟨g510, g511, g512, g513, g514, g515, g516, -⟩
                  refine seq fun K517 hK517 => ?_
                  refine reg ?_
                  refine s_y (y_fld fo57_6 g515) rfl ?_
                  have hb518 := (hk508.get hb505 (Nat.ne_of_lt (nt (lt_of_get hb486) (Nat.le_refl _))))
                  refine s_y (y_load (v := (Vi (x9.d))) rfl (rd_sc sc3 (On.now hb518) rfl)) rfl ?_
                  refine s_y (y_fld fo59_4 g516) rfl ?_
                  refine s_e0 (e_storeV (cs' := #[(Vi (x8.id)), (Vi (x8.binding)), (u8 x8.peer.addr.a), (u8 x8.peer.addr.b), (u8 x8.peer.addr.c), (u8 x8.peer.addr.d), (Vi (x8.peer.port)), (Vi (x9.s)), (Vi (x9.d))]) [(Vi (x9.d))] rfl (v := (Vi (x9.d))) rfl rfl sz3 hb507 rfl rfl rfl) ?_
                  rintro _ w519 ⟨hb520, hk521⟩
                  have ka522 := (Kp.fresh ka509 hk521 fun _ e => nl (nl hz496 (Nat.le_refl _)) (Nat.le_of_eq e.symm))
                  refine s_nil (hK517 _ _ (genC [(0, (Vi max)), (1, (.slice (some ⟨ab, ao, none⟩) n c)), (5, (Vp g.tb 0)), (7, (.map (some w38.heap.size))), (8, (Vi (((i : Nat) : Int)))), (9, (Vp w79.heap.size 0)), (12, (Vp w457.heap.size 0))] ⟨g510, g511, g512, g513, g514, g515, g516, trivial⟩ ?_))
                  clear hK517; rintro E ⟨g523, g524, g525, g526, g527, g528, g529, -⟩
                  refine reg ?_
                  refine s_y (y_move (v := (.map (some w38.heap.size))) g526) rfl ?_
                  refine s_y (y_fld fo57_4 g528) rfl ?_
                  have hb530 := (hk521.get hb518 (Nat.ne_of_lt (nt (lt_of_get hb486) (Nat.le_refl _))))
                  refine s_y (y_load (v := (Vi (x9.n))) rfl (rd_sc sc3 (On.now hb530) rfl)) rfl ?_
                  refine s_y (y_load (v := (sv (⟨x8.id, x8.binding, x8.peer, x9.s, x9.d⟩ : Session))) g529 (rd_agg (vs := [(Vi (x8.id)), (Vi (x8.binding)), (u8 x8.peer.addr.a), (u8 x8.peer.addr.b), (u8 x8.peer.addr.c), (u8 x8.peer.addr.d), (Vi (x8.peer.port)), (Vi (x9.s)), (Vi (x9.d))]) ag59 (On.now hb520) (by kernel_rfl) rfl)) rfl ?_
                  have hf531 := ((((hf487.kp hk490 id).kp hk494 (Nat.ne_of_lt (nt (hf487.lt) (Nat.le_refl _)))).kp hk508 (Nat.ne_of_lt (nt (hf487.lt) (Nat.le_refl _)))).kp hk521 (Nat.ne_of_lt (nt (hf487.lt) (Nat.le_refl _))))
                  refine s_e0 (e_mapUpdate kf3 Tryd.underlying73 hf531 rfl rfl (v := (⟨x8.id, x8.binding, x8.peer, x9.s, x9.d⟩ : Session)) rfl (show inI x9.n from inI_of (by omega) (by omega))) ?_
                  rintro _ w532 ⟨hm533, hk534⟩
                  have ka535 := (Kp.fresh ka522 hk534 fun _ e => nl (nl hk39.size (Nat.le_refl _)) (Nat.le_of_eq e.symm))
                  have kc536 : Kp (fun k => w.heap.size ≤ k) w79 w105 := (Kp.then0 (Kp.refl _ _) hk107)
                  have kc537 : Kp (fun k => w.heap.size ≤ k) w79 w109 := (Kp.trans kc536 hk111 fun _ _ e => (fun e => nl (nl hz113 (Nat.le_refl _)) (Nat.le_of_eq e.symm)) e)
                  have kc538 : Kp (fun k => w.heap.size ≤ k) w79 w457 := (Kp.trans kc537 (SNx.kp hn462) fun _ _ e => STab.ge hi83 _ e)
                  have kc539 : Kp (fun k => w.heap.size ≤ k) w79 w488 := (Kp.then0 kc538 hk490)
                  have kc540 : Kp (fun k => w.heap.size ≤ k) w79 w492 := (Kp.trans kc539 hk494 fun _ _ e => (fun e => nl (nl hz496 (Nat.le_refl _)) (Nat.le_of_eq e.symm)) e)
                  have kc541 : Kp (fun k => w.heap.size ≤ k) w79 w506 := (Kp.trans kc540 hk508 fun _ _ e => (fun e => nl (nl hz496 (Nat.le_refl _)) (Nat.le_of_eq e.symm)) e)
                  have kc542 : Kp (fun k => w.heap.size ≤ k) w79 w519 := (Kp.trans kc541 hk521 fun _ _ e => (fun e => nl (nl hz496 (Nat.le_refl _)) (Nat.le_of_eq e.symm)) e)
                  have kc543 : Kp (fun k => w.heap.size ≤ k) w79 w532 := (Kp.trans kc542 hk534 fun _ _ e => (fun e => nl (nl hk39.size (Nat.le_refl _)) (Nat.le_of_eq e.symm)) e)
                  have hni544 : w457.heap.size ∉ sfp g s458 := (fun e => Nat.lt_irrefl _ (nt (STab.lt (SNx.tab hn462) _ e) (nl (Nat.le_refl _) (Nat.le_refl _))))
                  have hni545 : w38.heap.size ∉ sfp g s458 := (SNx.notin hn462 hi86 (nt (hi84.lt) (nl hk107.size hk111.size)))
                  have hf546 := (STab.kp (STab.kp (STab.kp (STab.kp (STab.k0 (SNx.tab hn462) hk490) hk494 (fun b hb => (fun e => hni544 (e ▸ hb))) (Nat.ne_of_lt (nt (nt (hT.lt) hz496) (Nat.le_refl _)))) hk508 (fun b hb => (fun e => hni544 (e ▸ hb))) (Nat.ne_of_lt (nt (nt (hT.lt) hz496) (Nat.le_refl _)))) hk521 (fun b hb => (fun e => hni544 (e ▸ hb))) (Nat.ne_of_lt (nt (nt (hT.lt) hz496) (Nat.le_refl _)))) hk534 (fun b hb => (fun e => hni545 (e ▸ hb))) (Nat.ne_of_lt (nt (nt (hT.lt) hk39.size) (Nat.le_refl _))))
                  exact s_nil (hK121 _ _ ⟨⟨g523, g524, g525, g526, g527, trivial⟩, kc543, _, _, _, hf546, hm533, (mm_set hmm8 hpm9 hx8 hxn8 (STab.wf hi83).nd _ _), hni545⟩)
              · refine reg ?_
                refine s_y (y_eql g443 rfl) rfl ?_
                refine s_y (y_assign (v := (.bool (decide ((x9.do_ : Int) = 4)))) rfl) rfl ?_
                refine s_nil (hK435 _ _ (genC [(0, (Vi max)), (1, (.slice (some ⟨ab, ao, none⟩) n c)), (5, (Vp g.tb 0)), (7, (.map (some w38.heap.size))), (8, (Vi (((i : Nat) : Int)))), (9, (Vp w79.heap.size 0)), (54, (.int .u8 (x9.do_))), (79, (.bool (decide ((x9.do_ : Int) = 4))))] ⟨g437, g438, g439, g440, g441, g442, g443, rfl, trivial⟩ ?_))
                clear hK435; rintro E ⟨g547, g548, g549, g550, g551, g552, g553, g554, -⟩
                refine cond_d g554 (fun c555 => ?_) (fun c555 => ?_)
                · refine seq fun K556 hK556 => ?_
                  refine reg ?_
                  refine s_y (y_move (v := (Vp g.tb 0)) g549) rfl ?_
                  refine s_y (y_fld fo57_4 g552) rfl ?_
                  refine s_y (y_load (v := (Vi (x9.n))) rfl (rd_sc sc3 (On.now hb110) rfl)) rfl ?_
                  refine s_y (y_fld fo57_5 g552) rfl ?_
                  refine s_y (y_load (v := (Vi (x9.s))) rfl (rd_sc sc3 (On.now hb110) rfl)) rfl ?_
                  refine s_y (y_fld fo57_6 g552) rfl ?_
                  refine s_y (y_load (v := (Vi (x9.d))) rfl (rd_sc sc3 (On.now hb110) rfl)) rfl ?_
                  have hni557 : w79.heap.size ∉ sfp g s := (fun e => Nat.lt_irrefl _ (nt (STab.lt hi83 _ e) (nl (Nat.le_refl _) (Nat.le_refl _))))
                  have hf558 := (STab.kp (STab.k0 hi83 hk107) hk111 (fun b hb => (fun e => hni557 (e ▸ hb))) (Nat.ne_of_lt (nt (nt (hT.lt) hz113) (Nat.le_refl _))))
                  refine s_e (e_call ca34 (args := [(Vp g.tb 0), (Vi (x9.n)), (Vi (x9.s)), (Vi (x9.d))]) rfl (set_sy hf558 x9.n x9.s x9.d ⟨hd7, hd8⟩ ⟨hdb, hdc⟩)) rfl ?_
                  rintro _ w559 ⟨s560, ⟨r561, hr562, rfl, hn563⟩ | ⟨x8, hx8, hxn8, rfl, hn564⟩⟩
                  · have ka565 := (Kp.fresh ka112 (SNx.kp hn563) fun _ e => nl (Nat.le_refl _) (STab.ge hi83 _ e))
                    refine s_y (y_eql rfl rfl) rfl ?_
                    refine s_nil (hK556 _ _ (genC [(0, (Vi max)), (1, (.slice (some ⟨ab, ao, none⟩) n c)), (5, (Vp g.tb 0)), (7, (.map (some w38.heap.size))), (8, (Vi (((i : Nat) : Int)))), (9, (Vp w79.heap.size 0)), (90, (.bool (decide ((r561 : Int) = 0))))] ⟨g547, g548, g549, g550, g551, g552, rfl, trivial⟩ ?_))
                    clear hK556; rintro E ⟨g566, g567, g568, g569, g570, g571, g572, -⟩
                    refine cond_d g572 (fun c573 => ?_) (fun c573 => ?_)
                    · exact absurd c573 hr562
                    · have kc574 : Kp (fun k => w.heap.size ≤ k) w79 w105 := (Kp.then0 (Kp.refl _ _) hk107)
                      have kc575 : Kp (fun k => w.heap.size ≤ k) w79 w109 := (Kp.trans kc574 hk111 fun _ _ e => (fun e => nl (nl hz113 (Nat.le_refl _)) (Nat.le_of_eq e.symm)) e)
                      have kc576 : Kp (fun k => w.heap.size ≤ k) w79 w559 := (Kp.trans kc575 (SNx.kp hn563) fun _ _ e => STab.ge hi83 _ e)
                      have hf577 := (((hi84.kp hk107 id).kp hk111 (Nat.ne_of_lt (nt (hi84.lt) (Nat.le_refl _)))).kp (SNx.kp hn563) hi86)
                      have hni578 : w38.heap.size ∉ sfp g s560 := (SNx.notin hn563 hi86 (nt (hi84.lt) (nl hk107.size hk111.size)))
                      exact skip (hK121 _ _ ⟨⟨g566, g567, g568, g569, g570, trivial⟩, kc576, _, _, _, (SNx.tab hn563), hf577, hpm9, hni578⟩)
                  · have hag9 := mget_some hmm8 hpm9 hx8; rw [hxn8] at hag9
                    have ka579 := (Kp.fresh ka112 (SNx.kp hn564) fun _ e => nl (Nat.le_refl _) (STab.ge hi83 _ e))
                    refine s_y (y_eql rfl rfl) rfl ?_
                    refine s_nil (hK556 _ _ (genC [(0, (Vi max)), (1, (.slice (some ⟨ab, ao, none⟩) n c)), (5, (Vp g.tb 0)), (7, (.map (some w38.heap.size))), (8, (Vi (((i : Nat) : Int)))), (9, (Vp w79.heap.size 0)), (90, Vt)] ⟨g547, g548, g549, g550, g551, g552, rfl, trivial⟩ ?_))
                    clear hK556; rintro E ⟨g580, g581, g582, g583, g584, g585, g586, -⟩
                    refine cond_t g586 ?_
                    refine seq fun K587 hK587 => ?_
                    refine reg ?_
                    refine s_y (y_move (v := (.map (some w38.heap.size))) g583) rfl ?_
                    refine s_y (y_fld fo57_4 g585) rfl ?_
                    have hb588 := ((SNx.kp hn564).get hb110 hni557)
                    refine s_y (y_load (v := (Vi (x9.n))) rfl (rd_sc sc3 (On.now hb588) rfl)) rfl ?_
                    have hf589 := (((hi84.kp hk107 id).kp hk111 (Nat.ne_of_lt (nt (hi84.lt) (Nat.le_refl _)))).kp (SNx.kp hn564) hi86)
                    refine s_y (y_lookup_some kf3 Tryd.underlying73 ze59 (MapOn.now hf589) rfl rfl (show inI x9.n from inI_of (by omega) (by omega)) hag9) rfl ?_
                    refine s_e (e_alloc ze59) rfl ?_
                    rintro _ w590 ⟨rfl, hb591, hk592⟩
                    have ka593 := (Kp.then0 ka579 hk592)
                    refine s_e0 (e_storeV (cs' := x8.cs.toArray) x8.cs rfl (v := (sv x8)) rfl rfl sz59 hb591 rfl rfl rfl) ?_
                    rintro _ w594 ⟨hb595, hk596⟩
                    have hz598 := (nl (nl (nl hz113 hk107.size) hk111.size) (SNx.kp hn564).size)
                    have ka597 := (Kp.fresh ka593 hk596 fun _ e => nl (nl hz598 (Nat.le_refl _)) (Nat.le_of_eq e.symm))
                    refine s_nil (hK587 _ _ (genC [(0, (Vi max)), (1, (.slice (some ⟨ab, ao, none⟩) n c)), (5, (Vp g.tb 0)), (7, (.map (some w38.heap.size))), (8, (Vi (((i : Nat) : Int)))), (9, (Vp w79.heap.size 0)), (12, (Vp w559.heap.size 0))] ⟨g580, g581, g582, g583, g584, g585, rfl, trivial⟩ ?_))
                    clear hK587; rintro E ⟨g599, g600, g601, g602, g603, g604, g605, -⟩
                    refine seq fun K606 hK606 => ?_
                    refine reg ?_
                    refine s_y (y_fld fo57_5 g604) rfl ?_
                    have hb607 := (hk596.get (hk592.get0 hb588) (Nat.ne_of_lt (nt (lt_of_get hb588) (Nat.le_refl _))))
                    refine s_y (y_load (v := (Vi (x9.s))) rfl (rd_sc sc3 (On.now hb607) rfl)) rfl ?_
                    refine s_y (y_fld fo59_3 g605) rfl ?_
                    refine s_e0 (e_storeV (cs' := #[(Vi (x8.id)), (Vi (x8.binding)), (u8 x8.peer.addr.a), (u8 x8.peer.addr.b), (u8 x8.peer.addr.c), (u8 x8.peer.addr.d), (Vi (x8.peer.port)), (Vi (x9.s)), (Vi (x8.due))]) [(Vi (x9.s))] rfl (v := (Vi (x9.s))) rfl rfl sz3 hb595 rfl rfl rfl) ?_
                    rintro _ w608 ⟨hb609, hk610⟩
                    have ka611 := (Kp.fresh ka597 hk610 fun _ e => nl (nl hz598 (Nat.le_refl _)) (Nat.le_of_eq e.symm))
                    refine s_nil (hK606 _ _ (genC [(0, (Vi max)), (1, (.slice (some ⟨ab, ao, none⟩) n c)), (5, (Vp g.tb 0)), (7, (.map (some w38.heap.size))), (8, (Vi (((i : Nat) : Int)))), (9, (Vp w79.heap.size 0)), (12, (Vp w559.heap.size 0))] ⟨g599, g600, g601, g602, g603, g604, g605, trivial⟩ ?_))
                    clear hK606; rintro E ⟨g612, g613, g614, g615, g616, g617, g618, -⟩
                    refine seq fun K619 hK619 => ?_
                    refine reg ?_
                    refine s_y (y_fld fo57_6 g617) rfl ?_
                    have hb620 := (hk610.get hb607 (Nat.ne_of_lt (nt (lt_of_get hb588) (Nat.le_refl _))))
                    refine s_y (y_load (v := (Vi (x9.d))) rfl (rd_sc sc3 (On.now hb620) rfl)) rfl ?_
                    refine s_y (y_fld fo59_4 g618) rfl ?_
                    refine s_e0 (e_storeV (cs' := #[(Vi (x8.id)), (Vi (x8.binding)), (u8 x8.peer.addr.a), (u8 x8.peer.addr.b), (u8 x8.peer.addr.c), (u8 x8.peer.addr.d), (Vi (x8.peer.port)), (Vi (x9.s)), (Vi (x9.d))]) [(Vi (x9.d))] rfl (v := (Vi (x9.d))) rfl rfl sz3 hb609 rfl rfl rfl) ?_
                    rintro _ w621 ⟨hb622, hk623⟩
                    have ka624 := (Kp.fresh ka611 hk623 fun _ e => nl (nl hz598 (Nat.le_refl _)) (Nat.le_of_eq e.symm))
                    refine s_nil (hK619 _ _ (genC [(0, (Vi max)), (1, (.slice (some ⟨ab, ao, none⟩) n c)), (5, (Vp g.tb 0)), (7, (.map (some w38.heap.size))), (8, (Vi (((i : Nat) : Int)))), (9, (Vp w79.heap.size 0)), (12, (Vp w559.heap.size 0))] ⟨g612, g613, g614, g615, g616, g617, g618, trivial⟩ ?_))
                    clear hK619; rintro E ⟨g625, g626, g627, g628, g629, g630, g631, -⟩
                    refine reg ?_
                    refine s_y (y_move (v := (.map (some w38.heap.size))) g628) rfl ?_
                    refine s_y (y_fld fo57_4 g630) rfl ?_
                    have hb632 := (hk623.get hb620 (Nat.ne_of_lt (nt (lt_of_get hb588) (Nat.le_refl _))))
                    refine s_y (y_load (v := (Vi (x9.n))) rfl (rd_sc sc3 (On.now hb632) rfl)) rfl ?_
                    refine s_y (y_load (v := (sv (⟨x8.id, x8.binding, x8.peer, x9.s, x9.d⟩ : Session))) g631 (rd_agg (vs := [(Vi (x8.id)), (Vi (x8.binding)), (u8 x8.peer.addr.a), (u8 x8.peer.addr.b), (u8 x8.peer.addr.c), (u8 x8.peer.addr.d), (Vi (x8.peer.port)), (Vi (x9.s)), (Vi (x9.d))]) ag59 (On.now hb622) (by kernel_rfl) rfl)) rfl ?_
                    have hf633 := ((((hf589.kp hk592 id).kp hk596 (Nat.ne_of_lt (nt (hf589.lt) (Nat.le_refl _)))).kp hk610 (Nat.ne_of_lt (nt (hf589.lt) (Nat.le_refl _)))).kp hk623 (Nat.ne_of_lt (nt (hf589.lt) (Nat.le_refl _))))
                    refine s_e0 (e_mapUpdate kf3 Tryd.underlying73 hf633 rfl rfl (v := (⟨x8.id, x8.binding, x8.peer, x9.s, x9.d⟩ : Session)) rfl (show inI x9.n from inI_of (by omega) (by omega))) ?_
                    rintro _ w634 ⟨hm635, hk636⟩
                    have ka637 := (Kp.fresh ka624 hk636 fun _ e => nl (nl hk39.size (Nat.le_refl _)) (Nat.le_of_eq e.symm))
                    have kc638 : Kp (fun k => w.heap.size ≤ k) w79 w105 := (Kp.then0 (Kp.refl _ _) hk107)
                    have kc639 : Kp (fun k => w.heap.size ≤ k) w79 w109 := (Kp.trans kc638 hk111 fun _ _ e => (fun e => nl (nl hz113 (Nat.le_refl _)) (Nat.le_of_eq e.symm)) e)
                    have kc640 : Kp (fun k => w.heap.size ≤ k) w79 w559 := (Kp.trans kc639 (SNx.kp hn564) fun _ _ e => STab.ge hi83 _ e)
                    have kc641 : Kp (fun k => w.heap.size ≤ k) w79 w590 := (Kp.then0 kc640 hk592)
                    have kc642 : Kp (fun k => w.heap.size ≤ k) w79 w594 := (Kp.trans kc641 hk596 fun _ _ e => (fun e => nl (nl hz598 (Nat.le_refl _)) (Nat.le_of_eq e.symm)) e)
                    have kc643 : Kp (fun k => w.heap.size ≤ k) w79 w608 := (Kp.trans kc642 hk610 fun _ _ e => (fun e => nl (nl hz598 (Nat.le_refl _)) (Nat.le_of_eq e.symm)) e)
                    have kc644 : Kp (fun k => w.heap.size ≤ k) w79 w621 := (Kp.trans kc643 hk623 fun _ _ e => (fun e => nl (nl hz598 (Nat.le_refl _)) (Nat.le_of_eq e.symm)) e)
                    have kc645 : Kp (fun k => w.heap.size ≤ k) w79 w634 := (Kp.trans kc644 hk636 fun _ _ e => (fun e => nl (nl hk39.size (Nat.le_refl _)) (Nat.le_of_eq e.symm)) e)
                    have hni646 : w559.heap.size ∉ sfp g s560 := (fun e => Nat.lt_irrefl _ (nt (STab.lt (SNx.tab hn564) _ e) (nl (Nat.le_refl _) (Nat.le_refl _))))
                    have hni647 : w38.heap.size ∉ sfp g s560 := (SNx.notin hn564 hi86 (nt (hi84.lt) (nl hk107.size hk111.size)))
                    have hf648 := (STab.kp (STab.kp (STab.kp (STab.kp (STab.k0 (SNx.tab hn564) hk592) hk596 (fun b hb => (fun e => hni646 (e ▸ hb))) (Nat.ne_of_lt (nt (nt (hT.lt) hz598) (Nat.le_refl _)))) hk610 (fun b hb => (fun e => hni646 (e ▸ hb))) (Nat.ne_of_lt (nt (nt (hT.lt) hz598) (Nat.le_refl _)))) hk623 (fun b hb => (fun e => hni646 (e ▸ hb))) (Nat.ne_of_lt (nt (nt (hT.lt) hz598) (Nat.le_refl _)))) hk636 (fun b hb => (fun e => hni647 (e ▸ hb))) (Nat.ne_of_lt (nt (nt (hT.lt) hk39.size) (Nat.le_refl _))))
                    exact s_nil (hK121 _ _ ⟨⟨g625, g626, g627, g628, g629, trivial⟩, kc645, _, _, _, hf648, hm635, (mm_set hmm8 hpm9 hx8 hxn8 (STab.wf hi83).nd _ _), hni647⟩)
                · refine seq fun K649 hK649 => ?_
                  refine seq fun K650 hK650 => ?_
                  refine reg ?_
                  refine s_y (y_eql g553 rfl) rfl ?_
                  refine s_y (y_assign (v := (.bool (decide ((x9.do_ : Int) = 2)))) rfl) rfl ?_
                  refine s_nil (hK650 _ _ (genC [(0, (Vi max)), (1, (.slice (some ⟨ab, ao, none⟩) n c)), (5, (Vp g.tb 0)), (7, (.map (some w38.heap.size))), (8, (Vi (((i : Nat) : Int)))), (9, (Vp w79.heap.size 0)), (54, (.int .u8 (x9.do_))), (105, (.bool (decide ((x9.do_ : Int) = 2))))] ⟨g547, g548, g549, g550, g551, g552, g553, rfl, trivial⟩ ?_))
                  clear hK650; rintro E ⟨g651, g652, g653, g654, g655, g656, g657, g658, -⟩
                  refine cond_d g658 (fun c659 => ?_) (fun c659 => ?_)
                  · refine skip (hK649 _ _ (genC [(0, (Vi max)), (1, (.slice (some ⟨ab, ao, none⟩) n c)), (5, (Vp g.tb 0)), (7, (.map (some w38.heap.size))), (8, (Vi (((i : Nat) : Int)))), (9, (Vp w79.heap.size 0)), (54, (.int .u8 (x9.do_))), (105, Vt)] ⟨g651, g652, g653, g654, g655, g656, g657, (Eq.trans g658 (congrArg Value.bool (decide_eq_true c659))), trivial⟩ ?_))
                    clear hK649; rintro E ⟨g660, g661, g662, g663, g664, g665, g666, g667, -⟩
                    refine cond_t g667 ?_
                    refine seq fun K668 hK668 => ?_
                    refine reg ?_
                    refine s_y (y_move (v := (Vp g.tb 0)) g662) rfl ?_
                    refine s_y (y_fld fo57_4 g665) rfl ?_
                    refine s_y (y_load (v := (Vi (x9.n))) rfl (rd_sc sc3 (On.now hb110) rfl)) rfl ?_
                    have hni669 : w79.heap.size ∉ sfp g s := (fun e => Nat.lt_irrefl _ (nt (STab.lt hi83 _ e) (nl (Nat.le_refl _) (Nat.le_refl _))))
                    have hf670 := (STab.kp (STab.k0 hi83 hk107) hk111 (fun b hb => (fun e => hni669 (e ▸ hb))) (Nat.ne_of_lt (nt (nt (hT.lt) hz113) (Nat.le_refl _))))
                    refine s_e (e_call ca29 (args := [(Vp g.tb 0), (Vi (x9.n))]) rfl (drop_sy hf670 x9.n ⟨hd7, hd8⟩)) rfl ?_
                    rintro _ w671 ⟨s672, ⟨r673, hr674, rfl, hno8, hn675⟩ | ⟨x8, hx8, hxn8, rfl, hn676⟩⟩
                    · have ka677 := (Kp.fresh ka112 (SNx.kp hn675) fun _ e => nl (Nat.le_refl _) (STab.ge hi83 _ e))
                      refine s_y (y_move (v := (.tuple #[(sv zeroS), (Vi r673)])) rfl) rfl ?_
                      refine s_y (y_ext rfl (v := (sv zeroS)) rfl) rfl ?_
                      refine s_y (y_ext rfl (v := (Vi r673)) rfl) rfl ?_
                      refine s_e (e_alloc ze59) rfl ?_
                      rintro _ w678 ⟨rfl, hb679, hk680⟩
                      have ka681 := (Kp.then0 ka677 hk680)
                      refine s_e0 (e_storeV (cs' := zeroS.cs.toArray) zeroS.cs rfl (v := (sv zeroS)) rfl rfl sz59 hb679 rfl rfl rfl) ?_
                      rintro _ w682 ⟨hb683, hk684⟩
                      have hz686 := (nl (nl (nl hz113 hk107.size) hk111.size) (SNx.kp hn675).size)
                      have ka685 := (Kp.fresh ka681 hk684 fun _ e => nl (nl hz686 (Nat.le_refl _)) (Nat.le_of_eq e.symm))
                      refine s_y (y_assign (v := (Vi r673)) rfl) rfl ?_
                      refine s_nil (hK668 _ _ (genC [(0, (Vi max)), (1, (.slice (some ⟨ab, ao, none⟩) n c)), (5, (Vp g.tb 0)), (7, (.map (some w38.heap.size))), (8, (Vi (((i : Nat) : Int)))), (9, (Vp w79.heap.size 0)), (13, (Vp w671.heap.size 0)), (14, (Vi r673))] ⟨g660, g661, g662, g663, g664, g665, rfl, rfl, trivial⟩ ?_))
                      clear hK668; rintro E ⟨g687, g688, g689, g690, g691, g692, g693, g694, -⟩
                      refine seq fun K695 hK695 => ?_
                      refine seq fun K696 hK696 => ?_
                      refine reg ?_
                      refine s_y (y_move (v := (Vi r673)) g694) rfl ?_
                      refine s_y (y_eql rfl rfl) rfl ?_
                      refine s_y (y_move (v := (.bool (decide ((r673 : Int) = 0)))) rfl) rfl ?_
                      by_cases c697 : (r673 : Int) = 0
                      · exact absurd c697 hr674
                      · refine s_no (.no rfl (c := false) (congrArg Value.bool (decide_eq_false c697)) rfl) rfl ?_
                        refine s_no (.no rfl (c := false) (congrArg Value.bool (decide_eq_false c697)) rfl) rfl ?_
                        refine s_no (.no rfl (c := false) (congrArg Value.bool (decide_eq_false c697)) rfl) rfl ?_
                        refine s_no (.no rfl (c := false) (congrArg Value.bool (decide_eq_false c697)) rfl) rfl ?_
                        refine s_no (.no rfl (c := false) (congrArg Value.bool (decide_eq_false c697)) rfl) rfl ?_
                        refine s_no (.no rfl (c := false) (congrArg Value.bool (decide_eq_false c697)) rfl) rfl ?_
                        refine s_y (y_pick_f (congrArg Value.bool (decide_eq_false c697)) (v := Vf) rfl) rfl ?_
                        refine s_nil (hK696 _ _ (genC [(0, (Vi max)), (1, (.slice (some ⟨ab, ao, none⟩) n c)), (5, (Vp g.tb 0)), (7, (.map (some w38.heap.size))), (8, (Vi (((i : Nat) : Int)))), (9, (Vp w79.heap.size 0)), (124, Vf)] ⟨g687, g688, g689, g690, g691, g692, rfl, trivial⟩ ?_))
                        clear hK696; rintro E ⟨g698, g699, g700, g701, g702, g703, g704, -⟩
                        refine cond_f g704 ?_
                        refine skip (hK695 _ _ (genC [(0, (Vi max)), (1, (.slice (some ⟨ab, ao, none⟩) n c)), (5, (Vp g.tb 0)), (7, (.map (some w38.heap.size))), (8, (Vi (((i : Nat) : Int)))), (9, (Vp w79.heap.size 0))] ⟨g698, g699, g700, g701, g702, g703, trivial⟩ ?_))
                        clear hK695; rintro E ⟨g705, g706, g707, g708, g709, g710, -⟩
                        refine reg ?_
                        refine s_y (y_move (v := (.map (some w38.heap.size))) g708) rfl ?_
                        refine s_y (y_fld fo57_4 g710) rfl ?_
                        have hb711 := (hk684.get (hk680.get0 ((SNx.kp hn675).get hb110 hni669)) (Nat.ne_of_lt (nt (nt (lt_of_get hb110) (SNx.kp hn675).size) (Nat.le_refl _))))
                        refine s_y (y_load (v := (Vi (x9.n))) rfl (rd_sc sc3 (On.now hb711) rfl)) rfl ?_
                        have hz712 := (nl (nl hk107.size hk111.size) (SNx.kp hn675).size)
                        have hf713 := (((((hi84.kp hk107 id).kp hk111 (Nat.ne_of_lt (nt (hi84.lt) (Nat.le_refl _)))).kp (SNx.kp hn675) hi86).kp hk680 id).kp hk684 (Nat.ne_of_lt (nt (nt (hi84.lt) hz712) (Nat.le_refl _))))
                        refine s_e0 (e_delete kf3 Tryd.underlying73 hf713 rfl rfl (show inI x9.n from inI_of (by omega) (by omega))) ?_
                        rintro _ w714 ⟨hm715, hk716⟩
                        have ka717 := (Kp.fresh ka685 hk716 fun _ e => nl (nl hk39.size (Nat.le_refl _)) (Nat.le_of_eq e.symm))
                        have kc718 : Kp (fun k => w.heap.size ≤ k) w79 w105 := (Kp.then0 (Kp.refl _ _) hk107)
                        have kc719 : Kp (fun k => w.heap.size ≤ k) w79 w109 := (Kp.trans kc718 hk111 fun _ _ e => (fun e => nl (nl hz113 (Nat.le_refl _)) (Nat.le_of_eq e.symm)) e)
                        have kc720 : Kp (fun k => w.heap.size ≤ k) w79 w671 := (Kp.trans kc719 (SNx.kp hn675) fun _ _ e => STab.ge hi83 _ e)
                        have kc721 : Kp (fun k => w.heap.size ≤ k) w79 w678 := (Kp.then0 kc720 hk680)
                        have kc722 : Kp (fun k => w.heap.size ≤ k) w79 w682 := (Kp.trans kc721 hk684 fun _ _ e => (fun e => nl (nl hz686 (Nat.le_refl _)) (Nat.le_of_eq e.symm)) e)
                        have kc723 : Kp (fun k => w.heap.size ≤ k) w79 w714 := (Kp.trans kc722 hk716 fun _ _ e => (fun e => nl (nl hk39.size (Nat.le_refl _)) (Nat.le_of_eq e.symm)) e)
                        have hni724 : w671.heap.size ∉ sfp g s672 := (fun e => Nat.lt_irrefl _ (nt (STab.lt (SNx.tab hn675) _ e) (nl (Nat.le_refl _) (Nat.le_refl _))))
                        have hni725 : w38.heap.size ∉ sfp g s672 := (SNx.notin hn675 hi86 (nt (hi84.lt) (nl hk107.size hk111.size)))
                        have hf726 := (STab.kp (STab.kp (STab.k0 (SNx.tab hn675) hk680) hk684 (fun b hb => (fun e => hni724 (e ▸ hb))) (Nat.ne_of_lt (nt (nt (hT.lt) hz686) (Nat.le_refl _)))) hk716 (fun b hb => (fun e => hni725 (e ▸ hb))) (Nat.ne_of_lt (nt (nt (hT.lt) hk39.size) (Nat.le_refl _))))
                        exact s_nil (hK121 _ _ ⟨⟨g705, g706, g707, g708, g709, trivial⟩, kc723, _, _, _, hf726, hm715, (mm_del0 hpm9 hno8), hni725⟩)
                    · have hag9 := mget_some hmm8 hpm9 hx8; rw [hxn8] at hag9
                      have ka727 := (Kp.fresh ka112 (SNx.kp hn676) fun _ e => nl (Nat.le_refl _) (STab.ge hi83 _ e))
                      refine s_y (y_move (v := (.tuple #[(sv x8), (Vi 0)])) rfl) rfl ?_
                      refine s_y (y_ext rfl (v := (sv x8)) rfl) rfl ?_
                      refine s_y (y_ext rfl (v := (Vi 0)) rfl) rfl ?_
                      refine s_e (e_alloc ze59) rfl ?_
                      rintro _ w728 ⟨rfl, hb729, hk730⟩
                      have ka731 := (Kp.then0 ka727 hk730)
                      refine s_e0 (e_storeV (cs' := x8.cs.toArray) x8.cs rfl (v := (sv x8)) rfl rfl sz59 hb729 rfl rfl rfl) ?_
                      rintro _ w732 ⟨hb733, hk734⟩
                      have hz736 := (nl (nl (nl hz113 hk107.size) hk111.size) (SNx.kp hn676).size)
                      have ka735 := (Kp.fresh ka731 hk734 fun _ e => nl (nl hz736 (Nat.le_refl _)) (Nat.le_of_eq e.symm))
                      refine s_y (y_assign (v := (Vi 0)) rfl) rfl ?_
                      refine s_nil (hK668 _ _ (genC [(0, (Vi max)), (1, (.slice (some ⟨ab, ao, none⟩) n c)), (5, (Vp g.tb 0)), (7, (.map (some w38.heap.size))), (8, (Vi (((i : Nat) : Int)))), (9, (Vp w79.heap.size 0)), (13, (Vp w671.heap.size 0)), (14, (Vi 0))] ⟨g660, g661, g662, g663, g664, g665, rfl, rfl, trivial⟩ ?_))
                      clear hK668; rintro E ⟨g737, g738, g739, g740, g741, g742, g743, g744, -⟩
                      refine seq fun K745 hK745 => ?_
                      refine seq fun K746 hK746 => ?_
                      refine reg ?_
                      refine s_y (y_move (v := (Vi 0)) g744) rfl ?_
                      refine s_y (y_eql rfl rfl) rfl ?_
                      refine s_y (y_move (v := Vt) rfl) rfl ?_
                      refine s_gy (.yes rfl rfl) (y_load (v := (sv x8)) g743 (rd_agg (vs := x8.cs) ag59 (On.now hb733) (by kernel_rfl) rfl)) rfl ?_
                      refine s_gy (.yes rfl rfl) (y_move (v := (.map (some w38.heap.size))) g740) rfl ?_
                      refine s_gy (.yes rfl rfl) (y_fld fo57_4 g742) rfl ?_
                      have hb747 := (hk734.get (hk730.get0 ((SNx.kp hn676).get hb110 hni669)) (Nat.ne_of_lt (nt (nt (lt_of_get hb110) (SNx.kp hn676).size) (Nat.le_refl _))))
                      refine s_gy (.yes rfl rfl) (y_load (v := (Vi (x9.n))) rfl (rd_sc sc3 (On.now hb747) rfl)) rfl ?_
                      have hz748 := (nl (nl hk107.size hk111.size) (SNx.kp hn676).size)
                      have hf749 := (((((hi84.kp hk107 id).kp hk111 (Nat.ne_of_lt (nt (hi84.lt) (Nat.le_refl _)))).kp (SNx.kp hn676) hi86).kp hk730 id).kp hk734 (Nat.ne_of_lt (nt (nt (hi84.lt) hz748) (Nat.le_refl _))))
                      refine s_gy (.yes rfl rfl) (y_lookup_some kf3 Tryd.underlying73 ze59 (MapOn.now hf749) rfl rfl (show inI x9.n from inI_of (by omega) (by omega)) hag9) rfl ?_
                      refine s_gy (.yes rfl rfl) (y_neqT (eq59 9996) eg59 (x := x8) (y := x8) rfl rfl ⟨_, rfl⟩ ⟨_, rfl⟩) rfl ?_
                      refine s_y (y_pick_t rfl (v := (.bool (decide (x8 ≠ x8)))) rfl) rfl ?_
                      refine s_nil (hK746 _ _ (genC [(0, (Vi max)), (1, (.slice (some ⟨ab, ao, none⟩) n c)), (5, (Vp g.tb 0)), (7, (.map (some w38.heap.size))), (8, (Vi (((i : Nat) : Int)))), (9, (Vp w79.heap.size 0)), (124, (.bool (decide (x8 ≠ x8))))] ⟨g737, g738, g739, g740, g741, g742, rfl, trivial⟩ ?_))
                      clear hK746; rintro E ⟨g750, g751, g752, g753, g754, g755, g756, -⟩
                      refine cond_d g756 (fun c757 => ?_) (fun c757 => ?_)
                      · exact absurd rfl c757
                      · refine skip (hK745 _ _ (genC [(0, (Vi max)), (1, (.slice (some ⟨ab, ao, none⟩) n c)), (5, (Vp g.tb 0)), (7, (.map (some w38.heap.size))), (8, (Vi (((i : Nat) : Int)))), (9, (Vp w79.heap.size 0))] ⟨g750, g751, g752, g753, g754, g755, trivial⟩ ?_))
                        clear hK745; rintro E ⟨g758, g759, g760, g761, g762, g763, -⟩
                        refine reg ?_
                        refine s_y (y_move (v := (.map (some w38.heap.size))) g761) rfl ?_
                        refine s_y (y_fld fo57_4 g763) rfl ?_
                        refine s_y (y_load (v := (Vi (x9.n))) rfl (rd_sc sc3 (On.now hb747) rfl)) rfl ?_
                        refine s_e0 (e_delete kf3 Tryd.underlying73 hf749 rfl rfl (show inI x9.n from inI_of (by omega) (by omega))) ?_
                        rintro _ w764 ⟨hm765, hk766⟩
                        have ka767 := (Kp.fresh ka735 hk766 fun _ e => nl (nl hk39.size (Nat.le_refl _)) (Nat.le_of_eq e.symm))
                        have kc768 : Kp (fun k => w.heap.size ≤ k) w79 w105 := (Kp.then0 (Kp.refl _ _) hk107)
                        have kc769 : Kp (fun k => w.heap.size ≤ k) w79 w109 := (Kp.trans kc768 hk111 fun _ _ e => (fun e => nl (nl hz113 (Nat.le_refl _)) (Nat.le_of_eq e.symm)) e)
                        have kc770 : Kp (fun k => w.heap.size ≤ k) w79 w671 := (Kp.trans kc769 (SNx.kp hn676) fun _ _ e => STab.ge hi83 _ e)
                        have kc771 : Kp (fun k => w.heap.size ≤ k) w79 w728 := (Kp.then0 kc770 hk730)
                        have kc772 : Kp (fun k => w.heap.size ≤ k) w79 w732 := (Kp.trans kc771 hk734 fun _ _ e => (fun e => nl (nl hz736 (Nat.le_refl _)) (Nat.le_of_eq e.symm)) e)
                        have kc773 : Kp (fun k => w.heap.size ≤ k) w79 w764 := (Kp.trans kc772 hk766 fun _ _ e => (fun e => nl (nl hk39.size (Nat.le_refl _)) (Nat.le_of_eq e.symm)) e)
                        have hni774 : w671.heap.size ∉ sfp g s672 := (fun e => Nat.lt_irrefl _ (nt (STab.lt (SNx.tab hn676) _ e) (nl (Nat.le_refl _) (Nat.le_refl _))))
                        have hni775 : w38.heap.size ∉ sfp g s672 := (SNx.notin hn676 hi86 (nt (hi84.lt) (nl hk107.size hk111.size)))
                        have hf776 := (STab.kp (STab.kp (STab.k0 (SNx.tab hn676) hk730) hk734 (fun b hb => (fun e => hni774 (e ▸ hb))) (Nat.ne_of_lt (nt (nt (hT.lt) hz736) (Nat.le_refl _)))) hk766 (fun b hb => (fun e => hni775 (e ▸ hb))) (Nat.ne_of_lt (nt (nt (hT.lt) hk39.size) (Nat.le_refl _))))
                        exact s_nil (hK121 _ _ ⟨⟨g758, g759, g760, g761, g762, trivial⟩, kc773, _, _, _, hf776, hm765, (mm_del hpm9 x9.n), hni775⟩)
                  · refine reg ?_
                    refine s_y (y_eql g657 rfl) rfl ?_
                    refine s_y (y_assign (v := (.bool (decide ((x9.do_ : Int) = 5)))) rfl) rfl ?_
                    refine s_nil (hK649 _ _ (genC [(0, (Vi max)), (1, (.slice (some ⟨ab, ao, none⟩) n c)), (5, (Vp g.tb 0)), (7, (.map (some w38.heap.size))), (8, (Vi (((i : Nat) : Int)))), (9, (Vp w79.heap.size 0)), (54, (.int .u8 (x9.do_))), (105, (.bool (decide ((x9.do_ : Int) = 5))))] ⟨g651, g652, g653, g654, g655, g656, g657, rfl, trivial⟩ ?_))
                    clear hK649; rintro E ⟨g777, g778, g779, g780, g781, g782, g783, g784, -⟩
                    refine cond_d g784 (fun c785 => ?_) (fun c785 => ?_)
                    · refine seq fun K786 hK786 => ?_
                      refine reg ?_
                      refine s_y (y_move (v := (Vp g.tb 0)) g779) rfl ?_
                      refine s_y (y_fld fo57_4 g782) rfl ?_
                      refine s_y (y_load (v := (Vi (x9.n))) rfl (rd_sc sc3 (On.now hb110) rfl)) rfl ?_
                      have hni787 : w79.heap.size ∉ sfp g s := (fun e => Nat.lt_irrefl _ (nt (STab.lt hi83 _ e) (nl (Nat.le_refl _) (Nat.le_refl _))))
                      have hf788 := (STab.kp (STab.k0 hi83 hk107) hk111 (fun b hb => (fun e => hni787 (e ▸ hb))) (Nat.ne_of_lt (nt (nt (hT.lt) hz113) (Nat.le_refl _))))
                      refine s_e (e_call ca29 (args := [(Vp g.tb 0), (Vi (x9.n))]) rfl (drop_sy hf788 x9.n ⟨hd7, hd8⟩)) rfl ?_
                      rintro _ w789 ⟨s790, ⟨r791, hr792, rfl, hno8, hn793⟩ | ⟨x8, hx8, hxn8, rfl, hn794⟩⟩
                      · have ka795 := (Kp.fresh ka112 (SNx.kp hn793) fun _ e => nl (Nat.le_refl _) (STab.ge hi83 _ e))
                        refine s_y (y_move (v := (.tuple #[(sv zeroS), (Vi r791)])) rfl) rfl ?_
                        refine s_y (y_ext rfl (v := (sv zeroS)) rfl) rfl ?_
                        refine s_y (y_ext rfl (v := (Vi r791)) rfl) rfl ?_
                        refine s_e (e_alloc ze59) rfl ?_
                        rintro _ w796 ⟨rfl, hb797, hk798⟩
                        have ka799 := (Kp.then0 ka795 hk798)
                        refine s_e0 (e_storeV (cs' := zeroS.cs.toArray) zeroS.cs rfl (v := (sv zeroS)) rfl rfl sz59 hb797 rfl rfl rfl) ?_
                        rintro _ w800 ⟨hb801, hk802⟩
                        have hz804 := (nl (nl (nl hz113 hk107.size) hk111.size) (SNx.kp hn793).size)
                        have ka803 := (Kp.fresh ka799 hk802 fun _ e => nl (nl hz804 (Nat.le_refl _)) (Nat.le_of_eq e.symm))
                        refine s_y (y_assign (v := (Vi r791)) rfl) rfl ?_
                        refine s_nil (hK786 _ _ (genC [(0, (Vi max)), (1, (.slice (some ⟨ab, ao, none⟩) n c)), (5, (Vp g.tb 0)), (7, (.map (some w38.heap.size))), (8, (Vi (((i : Nat) : Int)))), (9, (Vp w79.heap.size 0)), (13, (Vp w789.heap.size 0)), (14, (Vi r791))] ⟨g777, g778, g779, g780, g781, g782, rfl, rfl, trivial⟩ ?_))
                        clear hK786; rintro E ⟨g805, g806, g807, g808, g809, g810, g811, g812, -⟩
                        refine seq fun K813 hK813 => ?_
                        refine seq fun K814 hK814 => ?_
                        refine reg ?_
                        refine s_y (y_move (v := (Vi r791)) g812) rfl ?_
                        refine s_y (y_eql rfl rfl) rfl ?_
                        refine s_y (y_move (v := (.bool (decide ((r791 : Int) = 0)))) rfl) rfl ?_
                        by_cases c815 : (r791 : Int) = 0
                        · exact absurd c815 hr792
                        · refine s_no (.no rfl (c := false) (congrArg Value.bool (decide_eq_false c815)) rfl) rfl ?_
                          refine s_no (.no rfl (c := false) (congrArg Value.bool (decide_eq_false c815)) rfl) rfl ?_
                          refine s_no (.no rfl (c := false) (congrArg Value.bool (decide_eq_false c815)) rfl) rfl ?_
                          refine s_no (.no rfl (c := false) (congrArg Value.bool (decide_eq_false c815)) rfl) rfl ?_
                          refine s_no (.no rfl (c := false) (congrArg Value.bool (decide_eq_false c815)) rfl) rfl ?_
                          refine s_no (.no rfl (c := false) (congrArg Value.bool (decide_eq_false c815)) rfl) rfl ?_
                          refine s_y (y_pick_f (congrArg Value.bool (decide_eq_false c815)) (v := Vf) rfl) rfl ?_
                          refine s_nil (hK814 _ _ (genC [(0, (Vi max)), (1, (.slice (some ⟨ab, ao, none⟩) n c)), (5, (Vp g.tb 0)), (7, (.map (some w38.heap.size))), (8, (Vi (((i : Nat) : Int)))), (9, (Vp w79.heap.size 0)), (124, Vf)] ⟨g805, g806, g807, g808, g809, g810, rfl, trivial⟩ ?_))
                          clear hK814; rintro E ⟨g816, g817, g818, g819, g820, g821, g822, -⟩
                          refine cond_f g822 ?_
                          refine skip (hK813 _ _ (genC [(0, (Vi max)), (1, (.slice (some ⟨ab, ao, none⟩) n c)), (5, (Vp g.tb 0)), (7, (.map (some w38.heap.size))), (8, (Vi (((i : Nat) : Int)))), (9, (Vp w79.heap.size 0))] ⟨g816, g817, g818, g819, g820, g821, trivial⟩ ?_))
                          clear hK813; rintro E ⟨g823, g824, g825, g826, g827, g828, -⟩
                          refine reg ?_
                          refine s_y (y_move (v := (.map (some w38.heap.size))) g826) rfl ?_
                          refine s_y (y_fld fo57_4 g828) rfl ?_
                          have hb829 := (hk802.get (hk798.get0 ((SNx.kp hn793).get hb110 hni787)) (Nat.ne_of_lt (nt (nt (lt_of_get hb110) (SNx.kp hn793).size) (Nat.le_refl _))))
                          refine s_y (y_load (v := (Vi (x9.n))) rfl (rd_sc sc3 (On.now hb829) rfl)) rfl ?_
                          have hz830 := (nl (nl hk107.size hk111.size) (SNx.kp hn793).size)
                          have hf831 := (((((hi84.kp hk107 id).kp hk111 (Nat.ne_of_lt (nt (hi84.lt) (Nat.le_refl _)))).kp (SNx.kp hn793) hi86).kp hk798 id).kp hk802 (Nat.ne_of_lt (nt (nt (hi84.lt) hz830) (Nat.le_refl _))))
                          refine s_e0 (e_delete kf3 Tryd.underlying73 hf831 rfl rfl (show inI x9.n from inI_of (by omega) (by omega))) ?_
                          rintro _ w832 ⟨hm833, hk834⟩
                          have ka835 := (Kp.fresh ka803 hk834 fun _ e => nl (nl hk39.size (Nat.le_refl _)) (Nat.le_of_eq e.symm))
                          have kc836 : Kp (fun k => w.heap.size ≤ k) w79 w105 := (Kp.then0 (Kp.refl _ _) hk107)
                          have kc837 : Kp (fun k => w.heap.size ≤ k) w79 w109 := (Kp.trans kc836 hk111 fun _ _ e => (fun e => nl (nl hz113 (Nat.le_refl _)) (Nat.le_of_eq e.symm)) e)
                          have kc838 : Kp (fun k => w.heap.size ≤ k) w79 w789 := (Kp.trans kc837 (SNx.kp hn793) fun _ _ e => STab.ge hi83 _ e)
                          have kc839 : Kp (fun k => w.heap.size ≤ k) w79 w796 := (Kp.then0 kc838 hk798)
                          have kc840 : Kp (fun k => w.heap.size ≤ k) w79 w800 := (Kp.trans kc839 hk802 fun _ _ e => (fun e => nl (nl hz804 (Nat.le_refl _)) (Nat.le_of_eq e.symm)) e)
                          have kc841 : Kp (fun k => w.heap.size ≤ k) w79 w832 := (Kp.trans kc840 hk834 fun _ _ e => (fun e => nl (nl hk39.size (Nat.le_refl _)) (Nat.le_of_eq e.symm)) e)
                          have hni842 : w789.heap.size ∉ sfp g s790 := (fun e => Nat.lt_irrefl _ (nt (STab.lt (SNx.tab hn793) _ e) (nl (Nat.le_refl _) (Nat.le_refl _))))
                          have hni843 : w38.heap.size ∉ sfp g s790 := (SNx.notin hn793 hi86 (nt (hi84.lt) (nl hk107.size hk111.size)))
                          have hf844 := (STab.kp (STab.kp (STab.k0 (SNx.tab hn793) hk798) hk802 (fun b hb => (fun e => hni842 (e ▸ hb))) (Nat.ne_of_lt (nt (nt (hT.lt) hz804) (Nat.le_refl _)))) hk834 (fun b hb => (fun e => hni843 (e ▸ hb))) (Nat.ne_of_lt (nt (nt (hT.lt) hk39.size) (Nat.le_refl _))))
                          exact s_nil (hK121 _ _ ⟨⟨g823, g824, g825, g826, g827, trivial⟩, kc841, _, _, _, hf844, hm833, (mm_del0 hpm9 hno8), hni843⟩)
                      · have hag9 := mget_some hmm8 hpm9 hx8; rw [hxn8] at hag9
                        have ka845 := (Kp.fresh ka112 (SNx.kp hn794) fun _ e => nl (Nat.le_refl _) (STab.ge hi83 _ e))
                        refine s_y (y_move (v := (.tuple #[(sv x8), (Vi 0)])) rfl) rfl ?_
                        refine s_y (y_ext rfl (v := (sv x8)) rfl) rfl ?_
                        refine s_y (y_ext rfl (v := (Vi 0)) rfl) rfl ?_
                        refine s_e (e_alloc ze59) rfl ?_
                        rintro _ w846 ⟨rfl, hb847, hk848⟩
                        have ka849 := (Kp.then0 ka845 hk848)
                        refine s_e0 (e_storeV (cs' := x8.cs.toArray) x8.cs rfl (v := (sv x8)) rfl rfl sz59 hb847 rfl rfl rfl) ?_
                        rintro _ w850 ⟨hb851, hk852⟩
                        have hz854 := (nl (nl (nl hz113 hk107.size) hk111.size) (SNx.kp hn794).size)
                        have ka853 := (Kp.fresh ka849 hk852 fun _ e => nl (nl hz854 (Nat.le_refl _)) (Nat.le_of_eq e.symm))
                        refine s_y (y_assign (v := (Vi 0)) rfl) rfl ?_
                        refine s_nil (hK786 _ _ (genC [(0, (Vi max)), (1, (.slice (some ⟨ab, ao, none⟩) n c)), (5, (Vp g.tb 0)), (7, (.map (some w38.heap.size))), (8, (Vi (((i : Nat) : Int)))), (9, (Vp w79.heap.size 0)), (13, (Vp w789.heap.size 0)), (14, (Vi 0))] ⟨g777, g778, g779, g780, g781, g782, rfl, rfl, trivial⟩ ?_))
                        clear hK786; rintro E ⟨g855, g856, g857, g858, g859, g860, g861, g862, -⟩
                        refine seq fun K863 hK863 => ?_
                        refine seq fun K864 hK864 => ?_
                        refine reg ?_
                        refine s_y (y_move (v := (Vi 0)) g862) rfl ?_
                        refine s_y (y_eql rfl rfl) rfl ?_
                        refine s_y (y_move (v := Vt) rfl) rfl ?_
                        refine s_gy (.yes rfl rfl) (y_load (v := (sv x8)) g861 (rd_agg (vs := x8.cs) ag59 (On.now hb851) (by kernel_rfl) rfl)) rfl ?_
                        refine s_gy (.yes rfl rfl) (y_move (v := (.map (some w38.heap.size))) g858) rfl ?_
                        refine s_gy (.yes rfl rfl) (y_fld fo57_4 g860) rfl ?_
                        have hb865 := (hk852.get (hk848.get0 ((SNx.kp hn794).get hb110 hni787)) (Nat.ne_of_lt (nt (nt (lt_of_get hb110) (SNx.kp hn794).size) (Nat.le_refl _))))
                        refine s_gy (.yes rfl rfl) (y_load (v := (Vi (x9.n))) rfl (rd_sc sc3 (On.now hb865) rfl)) rfl ?_
                        have hz866 := (nl (nl hk107.size hk111.size) (SNx.kp hn794).size)
                        have hf867 := (((((hi84.kp hk107 id).kp hk111 (Nat.ne_of_lt (nt (hi84.lt) (Nat.le_refl _)))).kp (SNx.kp hn794) hi86).kp hk848 id).kp hk852 (Nat.ne_of_lt (nt (nt (hi84.lt) hz866) (Nat.le_refl _))))
                        refine s_gy (.yes rfl rfl) (y_lookup_some kf3 Tryd.underlying73 ze59 (MapOn.now hf867) rfl rfl (show inI x9.n from inI_of (by omega) (by omega)) hag9) rfl ?_
                        refine s_gy (.yes rfl rfl) (y_neqT (eq59 9996) eg59 (x := x8) (y := x8) rfl rfl ⟨_, rfl⟩ ⟨_, rfl⟩) rfl ?_
                        refine s_y (y_pick_t rfl (v := (.bool (decide (x8 ≠ x8)))) rfl) rfl ?_
                        refine s_nil (hK864 _ _ (genC [(0, (Vi max)), (1, (.slice (some ⟨ab, ao, none⟩) n c)), (5, (Vp g.tb 0)), (7, (.map (some w38.heap.size))), (8, (Vi (((i : Nat) : Int)))), (9, (Vp w79.heap.size 0)), (124, (.bool (decide (x8 ≠ x8))))] ⟨g855, g856, g857, g858, g859, g860, rfl, trivial⟩ ?_))
                        clear hK864; rintro E ⟨g868, g869, g870, g871, g872, g873, g874, -⟩
                        refine cond_d g874 (fun c875 => ?_) (fun c875 => ?_)
                        · exact absurd rfl c875
                        · refine skip (hK863 _ _ (genC [(0, (Vi max)), (1, (.slice (some ⟨ab, ao, none⟩) n c)), (5, (Vp g.tb 0)), (7, (.map (some w38.heap.size))), (8, (Vi (((i : Nat) : Int)))), (9, (Vp w79.heap.size 0))] ⟨g868, g869, g870, g871, g872, g873, trivial⟩ ?_))
                          clear hK863; rintro E ⟨g876, g877, g878, g879, g880, g881, -⟩
                          refine reg ?_
                          refine s_y (y_move (v := (.map (some w38.heap.size))) g879) rfl ?_
                          refine s_y (y_fld fo57_4 g881) rfl ?_
                          refine s_y (y_load (v := (Vi (x9.n))) rfl (rd_sc sc3 (On.now hb865) rfl)) rfl ?_
                          refine s_e0 (e_delete kf3 Tryd.underlying73 hf867 rfl rfl (show inI x9.n from inI_of (by omega) (by omega))) ?_
                          rintro _ w882 ⟨hm883, hk884⟩
                          have ka885 := (Kp.fresh ka853 hk884 fun _ e => nl (nl hk39.size (Nat.le_refl _)) (Nat.le_of_eq e.symm))
                          have kc886 : Kp (fun k => w.heap.size ≤ k) w79 w105 := (Kp.then0 (Kp.refl _ _) hk107)
                          have kc887 : Kp (fun k => w.heap.size ≤ k) w79 w109 := (Kp.trans kc886 hk111 fun _ _ e => (fun e => nl (nl hz113 (Nat.le_refl _)) (Nat.le_of_eq e.symm)) e)
                          have kc888 : Kp (fun k => w.heap.size ≤ k) w79 w789 := (Kp.trans kc887 (SNx.kp hn794) fun _ _ e => STab.ge hi83 _ e)
                          have kc889 : Kp (fun k => w.heap.size ≤ k) w79 w846 := (Kp.then0 kc888 hk848)
                          have kc890 : Kp (fun k => w.heap.size ≤ k) w79 w850 := (Kp.trans kc889 hk852 fun _ _ e => (fun e => nl (nl hz854 (Nat.le_refl _)) (Nat.le_of_eq e.symm)) e)
                          have kc891 : Kp (fun k => w.heap.size ≤ k) w79 w882 := (Kp.trans kc890 hk884 fun _ _ e => (fun e => nl (nl hk39.size (Nat.le_refl _)) (Nat.le_of_eq e.symm)) e)
                          have hni892 : w789.heap.size ∉ sfp g s790 := (fun e => Nat.lt_irrefl _ (nt (STab.lt (SNx.tab hn794) _ e) (nl (Nat.le_refl _) (Nat.le_refl _))))
                          have hni893 : w38.heap.size ∉ sfp g s790 := (SNx.notin hn794 hi86 (nt (hi84.lt) (nl hk107.size hk111.size)))
                          have hf894 := (STab.kp (STab.kp (STab.k0 (SNx.tab hn794) hk848) hk852 (fun b hb => (fun e => hni892 (e ▸ hb))) (Nat.ne_of_lt (nt (nt (hT.lt) hz854) (Nat.le_refl _)))) hk884 (fun b hb => (fun e => hni893 (e ▸ hb))) (Nat.ne_of_lt (nt (nt (hT.lt) hk39.size) (Nat.le_refl _))))
                          exact s_nil (hK121 _ _ ⟨⟨g876, g877, g878, g879, g880, trivial⟩, kc891, _, _, _, hf894, hm883, (mm_del hpm9 x9.n), hni893⟩)
                    · refine seq fun K895 hK895 => ?_
                      refine reg ?_
                      refine s_y (y_eql g783 rfl) rfl ?_
                      refine s_y (y_assign (v := (.bool (decide ((x9.do_ : Int) = 3)))) rfl) rfl ?_
                      refine s_nil (hK895 _ _ (genC [(0, (Vi max)), (1, (.slice (some ⟨ab, ao, none⟩) n c)), (5, (Vp g.tb 0)), (7, (.map (some w38.heap.size))), (8, (Vi (((i : Nat) : Int)))), (9, (Vp w79.heap.size 0)), (128, (.bool (decide ((x9.do_ : Int) = 3))))] ⟨g777, g778, g779, g780, g781, g782, rfl, trivial⟩ ?_))
                      clear hK895; rintro E ⟨g896, g897, g898, g899, g900, g901, g902, -⟩
                      refine cond_d g902 (fun c903 => ?_) (fun c903 => ?_)
                      · refine seq fun K904 hK904 => ?_
                        refine reg ?_
                        refine s_y (y_move (v := (Vp g.tb 0)) g898) rfl ?_
                        refine s_y (y_fld fo57_6 g901) rfl ?_
                        refine s_y (y_load (v := (Vi (x9.d))) rfl (rd_sc sc3 (On.now hb110) rfl)) rfl ?_
                        have hni905 : w79.heap.size ∉ sfp g s := (fun e => Nat.lt_irrefl _ (nt (STab.lt hi83 _ e) (nl (Nat.le_refl _) (Nat.le_refl _))))
                        have hf906 := (STab.kp (STab.k0 hi83 hk107) hk111 (fun b hb => (fun e => hni905 (e ▸ hb))) (Nat.ne_of_lt (nt (nt (hT.lt) hz113) (Nat.le_refl _))))
                        refine s_e (e_call ca30 (args := [(Vp g.tb 0), (Vi (x9.d))]) rfl (pop_sx hf906 x9.d)) rfl ?_
                        rintro _ w907 ⟨s908, xs9, ⟨hz909, rfl⟩ | ⟨rb911, cap912, rfl, hC913, hf914, hni915⟩, hxp9, hxs9, hn910⟩
                        · have hpp9 : (xs9 ++ (popX a x9.d).L).Perm a.L := (hxp9.append_right _).trans (part_perm _ _ _ fun x => by rw [← decide_not]; exact decide_eq_decide.2 (by omega))
                          have hpx9 : ml.Perm (pairsM (xs9 ++ (popX a x9.d).L)) := hpm9.trans (hpp9.symm.map _)
                          have hxl9 : xs9.length ≤ 1000000 := by
                            have h9 := hpp9.length_eq; rw [List.length_append] at h9; have h8 := STab.smallL hi83; omega
                          have ka916 := (Kp.fresh ka112 (SNx.kp hn910) fun _ e => nl (Nat.le_refl _) (STab.ge hi83 _ e))
                          refine s_y (y_assign (v := (.slice none 0 0)) rfl) rfl ?_
                          refine s_nil (hK904 _ _ (genC [(0, (Vi max)), (1, (.slice (some ⟨ab, ao, none⟩) n c)), (5, (Vp g.tb 0)), (7, (.map (some w38.heap.size))), (8, (Vi (((i : Nat) : Int)))), (9, (Vp w79.heap.size 0)), (15, (.slice none 0 0))] ⟨g896, g897, g898, g899, g900, g901, rfl, trivial⟩ ?_))
                          clear hK904; rintro E ⟨g917, g918, g919, g920, g921, g922, g923, -⟩
                          refine seq fun K924 hK924 => ?_
                          refine seq fun K925 hK925 => ?_
                          refine reg ?_
                          refine s_y (y_assign (v := (Vi 0)) rfl) rfl ?_
                          refine s_nil (hK925 _ _ (genC [(0, (Vi max)), (1, (.slice (some ⟨ab, ao, none⟩) n c)), (5, (Vp g.tb 0)), (7, (.map (some w38.heap.size))), (8, (Vi (((i : Nat) : Int)))), (9, (Vp w79.heap.size 0)), (15, (.slice none 0 0)), (16, (Vi 0))] ⟨g917, g918, g919, g920, g921, g922, g923, rfl, trivial⟩ ?_))
                          clear hK925; rintro E ⟨g926, g927, g928, g929, g930, g931, g932, g933, -⟩
                          refine block ?_
                          have hpe9 : ml.Perm (pairsM (popX a x9.d).L) := by rw [hz909] at hpx9; exact hpx9
                          refine loopG (X := Nat) (fun q_ E w_ => Has E [(0, (Vi max)), (1, (.slice (some ⟨ab, ao, none⟩) n c)), (5, (Vp g.tb 0)), (7, (.map (some w38.heap.size))), (8, (Vi (((i : Nat) : Int)))), (9, (Vp w79.heap.size 0)), (15, (.slice none 0 0)), (16, (Vi (((q_ : Nat) : Int))))] ∧ Kp (fun _ => False) w907 w_ ∧ (q_ = 0)) (fun q_ => q_) 0 ⟨⟨g926, g927, g928, g929, g930, g931, g932, g933, trivial⟩, Kp.refl _ _, (show 0 = 0 from rfl)⟩ ?_
                          rintro j E w942 ⟨⟨g934, g935, g936, g937, g938, g939, g940, g941, -⟩, hk943, hi945⟩ K944 hK944
                          replace hi945 : j = 0 := hi945
                          have ka946 := (Kp.then0 ka916 hk943)
                          refine seq fun K947 hK947 => ?_
                          refine seq fun K948 hK948 => ?_
                          refine reg ?_
                          refine s_y (y_move (v := (Vi (((j : Nat) : Int)))) g941) rfl ?_
                          refine s_y (y_move (v := (.slice none 0 0)) g940) rfl ?_
                          refine s_y (y_lenS so63 rfl) rfl ?_
                          refine s_y (y_lss rfl rfl) rfl ?_
                          refine s_nil (hK948 _ _ (genC [(0, (Vi max)), (1, (.slice (some ⟨ab, ao, none⟩) n c)), (5, (Vp g.tb 0)), (7, (.map (some w38.heap.size))), (8, (Vi (((i : Nat) : Int)))), (9, (Vp w79.heap.size 0)), (15, (.slice none 0 0)), (16, (Vi (((j : Nat) : Int)))), (137, (.bool (decide ((((j : Nat) : Int) : Int) < ((0 : Nat) : Int)))))] ⟨g934, g935, g936, g937, g938, g939, g940, g941, rfl, trivial⟩ ?_))
                          clear hK948; rintro E ⟨g949, g950, g951, g952, g953, g954, g955, g956, g957, -⟩
                          refine cond_d g957 (fun c958 => ?_) (fun c958 => ?_)
                          · omega
                          · refine exit (hK924 _ _ (genC [(0, (Vi max)), (1, (.slice (some ⟨ab, ao, none⟩) n c)), (5, (Vp g.tb 0)), (7, (.map (some w38.heap.size))), (8, (Vi (((i : Nat) : Int)))), (9, (Vp w79.heap.size 0))] ⟨g949, g950, g951, g952, g953, g954, trivial⟩ ?_))
                            clear hK924; rintro E ⟨g959, g960, g961, g962, g963, g964, -⟩
                            refine seq fun K965 hK965 => ?_
                            refine reg ?_
                            refine s_y (y_move (v := (.map (some w38.heap.size))) g962) rfl ?_
                            have hf966 := ((((hi84.kp hk107 id).kp hk111 (Nat.ne_of_lt (nt (hi84.lt) (Nat.le_refl _)))).kp (SNx.kp hn910) hi86).kp hk943 id)
                            refine s_e (e_range Tryd.underlying73 hf966 rfl) rfl ?_
                            rintro _ w967 ⟨rfl, hit968, hk969⟩
                            have ka970 := (Kp.then0 ka946 hk969)
                            refine s_nil (hK965 _ _ (genC [(0, (Vi max)), (1, (.slice (some ⟨ab, ao, none⟩) n c)), (5, (Vp g.tb 0)), (7, (.map (some w38.heap.size))), (8, (Vi (((i : Nat) : Int)))), (9, (Vp w79.heap.size 0)), (215, (Vp w942.heap.size 0))] ⟨g959, g960, g961, g962, g963, g964, rfl, trivial⟩ ?_))
                            clear hK965; rintro E ⟨g971, g972, g973, g974, g975, g976, g977, -⟩
                            refine block ?_
                            have hal9 : ∀ p ∈ ml, x9.d < p.2.due := fun p hp => by
                              obtain ⟨s, hs, rfl⟩ := List.mem_map.1 ((hpe9 : List.Perm _ _).mem_iff.1 hp); have h9 := (List.mem_filter.1 hs).2; simpa using h9
                            refine loopG (X := List (Int × Session)) (fun q_ E w_ => Has E [(0, (Vi max)), (1, (.slice (some ⟨ab, ao, none⟩) n c)), (5, (Vp g.tb 0)), (7, (.map (some w38.heap.size))), (8, (Vi (((i : Nat) : Int)))), (9, (Vp w79.heap.size 0)), (215, (Vp w942.heap.size 0))] ∧ Kp (· = w942.heap.size) w967 w_ ∧ (IterAt (fun n : Int => .int .i64 n) sv inI w_ w942.heap.size w38.heap.size ml q_ none) ∧ (∀ p ∈ q_, x9.d < p.2.due)) (fun q_ => q_.length) ml ⟨⟨g971, g972, g973, g974, g975, g976, g977, trivial⟩, Kp.refl _ _, (show IterAt (fun n : Int => .int .i64 n) sv inI w967 w942.heap.size w38.heap.size ml ml none from (IterAt.forget hit968)), (show ∀ p ∈ ml, x9.d < p.2.due from hal9)⟩ ?_
                            rintro left E w985 ⟨⟨g978, g979, g980, g981, g982, g983, g984, -⟩, hk986, hi988, hi989⟩ K987 hK987
                            replace hi988 : IterAt (fun n : Int => .int .i64 n) sv inI w985 w942.heap.size w38.heap.size ml left none := hi988
                            replace hi989 : ∀ p ∈ left, x9.d < p.2.due := hi989
                            have hz991 := (nl (nl (nl (nl hz113 hk107.size) hk111.size) (SNx.kp hn910).size) hk943.size)
                            have ka990 := (Kp.fresh ka970 hk986 fun _ e => nl (nl hz991 (Nat.le_refl _)) (Nat.le_of_eq e.symm))
                            have hal8 := hi989
                            refine seq fun K992 hK992 => ?_
                            refine reg ?_
                            by_cases c993 : left = []
                            · refine s_e (e_next_done' hi988 c993 g984) rfl ?_
                              rintro _ w994 ⟨rfl, -, hk995⟩
                              have ka996 := (Kp.then0 ka990 hk995)
                              refine s_y (y_ext rfl (v := Vf) rfl) rfl ?_
                              refine s_nil (hK992 _ _ (genC [(0, (Vi max)), (1, (.slice (some ⟨ab, ao, none⟩) n c)), (5, (Vp g.tb 0)), (7, (.map (some w38.heap.size))), (8, (Vi (((i : Nat) : Int)))), (9, (Vp w79.heap.size 0)), (215, (Vp w942.heap.size 0)), (217, Vf)] ⟨g978, g979, g980, g981, g982, g983, g984, rfl, trivial⟩ ?_))
                              clear hK992; rintro E ⟨g997, g998, g999, g1000, g1001, g1002, g1003, g1004, -⟩
                              refine seq fun K1005 hK1005 => ?_
                              refine cond_f g1004 ?_
                              have kc1006 : Kp (fun k => w.heap.size ≤ k) w79 w105 := (Kp.then0 (Kp.refl _ _) hk107)
                              have kc1007 : Kp (fun k => w.heap.size ≤ k) w79 w109 := (Kp.trans kc1006 hk111 fun _ _ e => (fun e => nl (nl hz113 (Nat.le_refl _)) (Nat.le_of_eq e.symm)) e)
                              have kc1008 : Kp (fun k => w.heap.size ≤ k) w79 w907 := (Kp.trans kc1007 (SNx.kp hn910) fun _ _ e => STab.ge hi83 _ e)
                              have kc1009 : Kp (fun k => w.heap.size ≤ k) w79 w942 := (Kp.then0 kc1008 hk943)
                              have kc1010 : Kp (fun k => w.heap.size ≤ k) w79 w967 := (Kp.then0 kc1009 hk969)
                              have kc1011 : Kp (fun k => w.heap.size ≤ k) w79 w985 := (Kp.trans kc1010 hk986 fun _ _ e => (fun e => nl (nl hz991 (Nat.le_refl _)) (Nat.le_of_eq e.symm)) e)
                              have kc1012 : Kp (fun k => w.heap.size ≤ k) w79 w994 := (Kp.then0 kc1011 hk995)
                              have hni1013 : w942.heap.size ∉ sfp g s908 := (fun e => Nat.lt_irrefl _ (nt (STab.lt (SNx.tab hn910) _ e) (nl hk943.size (Nat.le_refl _))))
                              have hf1014 := (STab.k0 (STab.kp (STab.k0 (STab.k0 (SNx.tab hn910) hk943) hk969) hk986 (fun b hb => (fun e => hni1013 (e ▸ hb))) (Nat.ne_of_lt (nt (nt (hT.lt) hz991) (Nat.le_refl _)))) hk995)
                              have hf1015 := (((hf966.kp hk969 id).kp hk986 (Nat.ne_of_lt (nt (hf966.lt) (Nat.le_refl _)))).kp hk995 id)
                              have hni1016 : w38.heap.size ∉ sfp g s908 := (SNx.notin hn910 hi86 (nt (hi84.lt) (nl hk107.size hk111.size)))
                              exact exit (hK121 _ _ ⟨⟨g997, g998, g999, g1000, g1001, trivial⟩, kc1012, _, _, _, hf1014, hf1015, hpe9, hni1016⟩)
                            · refine s_e (e_next_more hi988 c993 g984) rfl ?_
                              rintro _ w1017 ⟨i1020, p1021, hp1022, rfl, hit1019, hk1018⟩
                              have ka1023 := (Kp.fresh ka990 hk1018 fun _ e => nl (nl hz991 (Nat.le_refl _)) (Nat.le_of_eq e.symm))
                              have hdl9 := hal8 p1021 (List.mem_of_getElem? hp1022)
                              refine s_y (y_ext rfl (v := Vt) rfl) rfl ?_
                              refine s_nil (hK992 _ _ (genC [(0, (Vi max)), (1, (.slice (some ⟨ab, ao, none⟩) n c)), (5, (Vp g.tb 0)), (7, (.map (some w38.heap.size))), (8, (Vi (((i : Nat) : Int)))), (9, (Vp w79.heap.size 0)), (215, (Vp w942.heap.size 0)), (217, Vt)] ⟨g978, g979, g980, g981, g982, g983, g984, rfl, trivial⟩ ?_))
                              clear hK992; rintro E ⟨g1024, g1025, g1026, g1027, g1028, g1029, g1030, g1031, -⟩
                              refine seq fun K1032 hK1032 => ?_
                              refine cond_t g1031 ?_
                              refine skip (hK1032 _ _ (genC [(0, (Vi max)), (1, (.slice (some ⟨ab, ao, none⟩) n c)), (5, (Vp g.tb 0)), (7, (.map (some w38.heap.size))), (8, (Vi (((i : Nat) : Int)))), (9, (Vp w79.heap.size 0)), (215, (Vp w942.heap.size 0))] ⟨g1024, g1025, g1026, g1027, g1028, g1029, g1030, trivial⟩ ?_))
                              clear hK1032; rintro E ⟨g1033, g1034, g1035, g1036, g1037, g1038, g1039, -⟩
                              refine block ?_
                              refine seq fun K1040 hK1040 => ?_
                              refine reg ?_
                              refine s_y (y_entry (p := p1021) hit1019 g1039) rfl ?_
                              refine s_y (y_ext rfl (v := (sv p1021.2)) rfl) rfl ?_
                              refine s_e (e_alloc ze59) rfl ?_
                              rintro _ w1041 ⟨rfl, hb1042, hk1043⟩
                              have ka1044 := (Kp.then0 ka1023 hk1043)
                              refine s_e0 (e_storeV (cs' := p1021.2.cs.toArray) p1021.2.cs rfl (v := (sv p1021.2)) rfl rfl sz59 hb1042 rfl rfl rfl) ?_
                              rintro _ w1045 ⟨hb1046, hk1047⟩
                              have hz1049 := (nl (nl (nl hz991 hk969.size) hk986.size) hk1018.size)
                              have ka1048 := (Kp.fresh ka1044 hk1047 fun _ e => nl (nl hz1049 (Nat.le_refl _)) (Nat.le_of_eq e.symm))
                              refine s_nil (hK1040 _ _ (genC [(0, (Vi max)), (1, (.slice (some ⟨ab, ao, none⟩) n c)), (5, (Vp g.tb 0)), (7, (.map (some w38.heap.size))), (8, (Vi (((i : Nat) : Int)))), (9, (Vp w79.heap.size 0)), (18, (Vp w1017.heap.size 0)), (215, (Vp w942.heap.size 0))] ⟨g1033, g1034, g1035, g1036, g1037, g1038, rfl, g1039, trivial⟩ ?_))
                              clear hK1040; rintro E ⟨g1050, g1051, g1052, g1053, g1054, g1055, g1056, g1057, -⟩
                              refine seq fun K1058 hK1058 => ?_
                              refine reg ?_
                              refine s_y (y_fld fo59_4 g1056) rfl ?_
                              refine s_y (y_load (v := (Vi (p1021.2.due))) rfl (rd_sc sc3 (On.now hb1046) rfl)) rfl ?_
                              refine s_y (y_fld fo57_6 g1055) rfl ?_
                              have hz1059 := (nl (nl (nl (nl (SNx.kp hn910).size hk943.size) hk969.size) hk986.size) hk1018.size)
                              have hb1060 := (hk1047.get (hk1043.get0 (hk1018.get (hk986.get (hk969.get0 (hk943.get0 ((SNx.kp hn910).get hb110 hni905))) (Nat.ne_of_lt (nt (nt (lt_of_get hb110) (nl (SNx.kp hn910).size hk943.size)) (Nat.le_refl _)))) (Nat.ne_of_lt (nt (nt (lt_of_get hb110) (nl (SNx.kp hn910).size hk943.size)) (Nat.le_refl _))))) (Nat.ne_of_lt (nt (nt (lt_of_get hb110) hz1059) (Nat.le_refl _))))
                              refine s_y (y_load (v := (Vi (x9.d))) rfl (rd_sc sc3 (On.now hb1060) rfl)) rfl ?_
                              refine s_y (y_leq rfl rfl) rfl ?_
                              refine s_nil (hK1058 _ _ (genC [(0, (Vi max)), (1, (.slice (some ⟨ab, ao, none⟩) n c)), (5, (Vp g.tb 0)), (7, (.map (some w38.heap.size))), (8, (Vi (((i : Nat) : Int)))), (9, (Vp w79.heap.size 0)), (215, (Vp w942.heap.size 0)), (224, (.bool (decide ((p1021.2.due : Int) ≤ x9.d))))] ⟨g1050, g1051, g1052, g1053, g1054, g1055, g1057, rfl, trivial⟩ ?_))
                              clear hK1058; rintro E ⟨g1061, g1062, g1063, g1064, g1065, g1066, g1067, g1068, -⟩
                              refine cond_d g1068 (fun c1069 => ?_) (fun c1069 => ?_)
                              · omega
                              · have hle9 := len_erase hp1022
                                have hf1070 := ((hit1019.kp hk1043 id id).kp hk1047 (Nat.ne_of_lt (nt (hit1019.ltr) (Nat.le_refl _))) (Nat.ne_of_lt (nt (hit1019.ltb) (Nat.le_refl _))))
                                have kc1071 : Kp (· = w942.heap.size) w967 w985 := (Kp.trans (Kp.refl _ _) hk986 (fun _ _ e => e))
                                have kc1072 : Kp (· = w942.heap.size) w967 w1017 := (Kp.trans kc1071 hk1018 (fun _ _ e => e))
                                have kc1073 : Kp (· = w942.heap.size) w967 w1041 := (Kp.then0 kc1072 hk1043)
                                have kc1074 : Kp (· = w942.heap.size) w967 w1045 := (Kp.fresh kc1073 hk1047 fun _ e => nl (nl (nl hk986.size hk1018.size) (Nat.le_refl _)) (Nat.le_of_eq e.symm))
                                exact skip (hK987 (left.eraseIdx i1020) _ _ ⟨⟨g1061, g1062, g1063, g1064, g1065, g1066, g1067, trivial⟩, kc1074, (show IterAt (fun n : Int => .int .i64 n) sv inI w1045 w942.heap.size w38.heap.size ml (left.eraseIdx i1020) none from (IterAt.forget hf1070)), (show ∀ p ∈ (left.eraseIdx i1020), x9.d < p.2.due from (fun q hq => hal8 q (List.mem_of_mem_eraseIdx hq)))⟩ (by show (left.eraseIdx i1020).length < left.length; omega))
                        · have hpp9 : (xs9 ++ (popX a x9.d).L).Perm a.L := (hxp9.append_right _).trans (part_perm _ _ _ fun x => by rw [← decide_not]; exact decide_eq_decide.2 (by omega))
                          have hpx9 : ml.Perm (pairsM (xs9 ++ (popX a x9.d).L)) := hpm9.trans (hpp9.symm.map _)
                          have hxl9 : xs9.length ≤ 1000000 := by
                            have h9 := hpp9.length_eq; rw [List.length_append] at h9; have h8 := STab.smallL hi83; omega
                          have ka1075 := (Kp.fresh ka112 (SNx.kp hn910) fun _ e => nl (Nat.le_refl _) (STab.ge hi83 _ e))
                          refine s_y (y_assign (v := (.slice (some ⟨rb911, 0, none⟩) xs9.length cap912)) rfl) rfl ?_
                          refine s_nil (hK904 _ _ (genC [(0, (Vi max)), (1, (.slice (some ⟨ab, ao, none⟩) n c)), (5, (Vp g.tb 0)), (7, (.map (some w38.heap.size))), (8, (Vi (((i : Nat) : Int)))), (9, (Vp w79.heap.size 0)), (15, (.slice (some ⟨rb911, 0, none⟩) xs9.length cap912))] ⟨g896, g897, g898, g899, g900, g901, rfl, trivial⟩ ?_))
                          clear hK904; rintro E ⟨g1076, g1077, g1078, g1079, g1080, g1081, g1082, -⟩
                          refine seq fun K1083 hK1083 => ?_
                          refine seq fun K1084 hK1084 => ?_
                          refine reg ?_
                          refine s_y (y_assign (v := (Vi 0)) rfl) rfl ?_
                          refine s_nil (hK1084 _ _ (genC [(0, (Vi max)), (1, (.slice (some ⟨ab, ao, none⟩) n c)), (5, (Vp g.tb 0)), (7, (.map (some w38.heap.size))), (8, (Vi (((i : Nat) : Int)))), (9, (Vp w79.heap.size 0)), (15, (.slice (some ⟨rb911, 0, none⟩) xs9.length cap912)), (16, (Vi 0))] ⟨g1076, g1077, g1078, g1079, g1080, g1081, g1082, rfl, trivial⟩ ?_))
                          clear hK1084; rintro E ⟨g1085, g1086, g1087, g1088, g1089, g1090, g1091, g1092, -⟩
                          refine block ?_
                          have hf1093 := (((hi84.kp hk107 id).kp hk111 (Nat.ne_of_lt (nt (hi84.lt) (Nat.le_refl _)))).kp (SNx.kp hn910) hi86)
                          refine loopG (X := Nat × List (Int × Session)) (fun q_ E w_ => Has E [(0, (Vi max)), (1, (.slice (some ⟨ab, ao, none⟩) n c)), (5, (Vp g.tb 0)), (7, (.map (some w38.heap.size))), (8, (Vi (((i : Nat) : Int)))), (9, (Vp w79.heap.size 0)), (15, (.slice (some ⟨rb911, 0, none⟩) xs9.length cap912)), (16, (Vi (((q_.1 : Nat) : Int))))] ∧ Kp (· = w38.heap.size) w907 w_ ∧ (q_.1 ≤ xs9.length) ∧ (SMap w_ w38.heap.size q_.2) ∧ (q_.2.Perm (pairsM (xs9.drop q_.1 ++ (popX a x9.d).L)))) (fun q_ => (xs9.length - q_.1)) (0, ml) ⟨⟨g1085, g1086, g1087, g1088, g1089, g1090, g1091, g1092, trivial⟩, Kp.refl _ _, (show 0 ≤ xs9.length from (Nat.zero_le _)), (show SMap w907 w38.heap.size ml from hf1093), (show ml.Perm (pairsM (xs9.drop 0 ++ (popX a x9.d).L)) from hpx9)⟩ ?_
                          rintro ⟨j, mj⟩ E w1102 ⟨⟨g1094, g1095, g1096, g1097, g1098, g1099, g1100, g1101, -⟩, hk1103, hi1105, hi1106, hi1107⟩ K1104 hK1104
                          replace g1094 : E 0 = (Vi max) := g1094
                          replace g1095 : E 1 = (.slice (some ⟨ab, ao, none⟩) n c) := g1095
                          replace g1096 : E 5 = (Vp g.tb 0) := g1096
                          replace g1097 : E 7 = (.map (some w38.heap.size)) := g1097
                          replace g1098 : E 8 = (Vi (((i : Nat) : Int))) := g1098
                          replace g1099 : E 9 = (Vp w79.heap.size 0) := g1099
                          replace g1100 : E 15 = (.slice (some ⟨rb911, 0, none⟩) xs9.length cap912) := g1100
                          replace g1101 : E 16 = (Vi (((j : Nat) : Int))) := g1101
                          replace hi1105 : j ≤ xs9.length := hi1105
                          replace hi1106 : SMap w1102 w38.heap.size mj := hi1106
                          replace hi1107 : mj.Perm (pairsM (xs9.drop j ++ (popX a x9.d).L)) := hi1107
                          have ka1108 := (Kp.fresh ka1075 hk1103 fun _ e => nl (nl hk39.size (Nat.le_refl _)) (Nat.le_of_eq e.symm))
                          have hj9 := hi1105; have hmj9 := hi1106; have hpj9 := hi1107
                          refine seq fun K1109 hK1109 => ?_
                          refine seq fun K1110 hK1110 => ?_
                          refine reg ?_
                          refine s_y (y_move (v := (Vi (((j : Nat) : Int)))) g1101) rfl ?_
                          refine s_y (y_move (v := (.slice (some ⟨rb911, 0, none⟩) xs9.length cap912)) g1100) rfl ?_
                          refine s_y (y_lenS so63 rfl) rfl ?_
                          refine s_y (y_lss rfl rfl) rfl ?_
                          refine s_nil (hK1110 _ _ (genC [(0, (Vi max)), (1, (.slice (some ⟨ab, ao, none⟩) n c)), (5, (Vp g.tb 0)), (7, (.map (some w38.heap.size))), (8, (Vi (((i : Nat) : Int)))), (9, (Vp w79.heap.size 0)), (15, (.slice (some ⟨rb911, 0, none⟩) xs9.length cap912)), (16, (Vi (((j : Nat) : Int)))), (137, (.bool (decide ((((j : Nat) : Int) : Int) < ((xs9.length : Nat) : Int)))))] ⟨g1094, g1095, g1096, g1097, g1098, g1099, g1100, g1101, rfl, trivial⟩ ?_))
                          clear hK1110; rintro E ⟨g1111, g1112, g1113, g1114, g1115, g1116, g1117, g1118, g1119, -⟩
                          refine cond_d g1119 (fun c1120 => ?_) (fun c1120 => ?_)
                          · obtain ⟨z9, hz9⟩ : ∃ x, xs9[j]? = some x := ⟨_, List.getElem?_eq_getElem (by omega)⟩
                            have hzd9 : z9.due ≤ x9.d := by have h9 := (List.mem_filter.1 (hxp9.mem_iff.1 (List.mem_of_getElem? hz9))).2; simpa using h9
                            have hpz9 : mj.Perm (pairsM (z9 :: (xs9.drop (j + 1) ++ (popX a x9.d).L))) := by have h9 := hpj9; rw [drop_at hz9] at h9; exact h9
                            have hag9 := mget_some hmj9 hpz9 (List.mem_cons_self); have hgz9 : inI z9.id := hmj9.goods _ (hpz9.mem_iff.2 (List.mem_cons_self)); unfold inI at hgz9
                            have hpv9 : 0 < j → ∃ y, xs9[j - 1]? = some y ∧ (y.due < z9.due ∨ (y.due = z9.due ∧ y.id < z9.id)) := fun h9 => ⟨_, List.getElem?_eq_getElem (by omega), sord_at hxs9 (j := j - 1) (List.getElem?_eq_getElem (by omega)) (by rw [Nat.sub_add_cancel h9]; exact hz9)⟩
                            refine skip (hK1109 _ _ (genC [(0, (Vi max)), (1, (.slice (some ⟨ab, ao, none⟩) n c)), (5, (Vp g.tb 0)), (7, (.map (some w38.heap.size))), (8, (Vi (((i : Nat) : Int)))), (9, (Vp w79.heap.size 0)), (15, (.slice (some ⟨rb911, 0, none⟩) xs9.length cap912)), (16, (Vi (((j : Nat) : Int))))] ⟨g1111, g1112, g1113, g1114, g1115, g1116, g1117, g1118, trivial⟩ ?_))
                            clear hK1109; rintro E ⟨g1121, g1122, g1123, g1124, g1125, g1126, g1127, g1128, -⟩
                            refine seq fun K1129 hK1129 => ?_
                            refine block ?_
                            refine seq fun K1130 hK1130 => ?_
                            refine seq fun K1131 hK1131 => ?_
                            refine regD (fun _ => False) (.take 0 (.take 1 (.take 2 (.take 3 (.take 4 (.take 5 (.take 6 (.take 7 (.take 8 (.take 9 (.take 10 (.take 11 (.take 12 (.take 13 (.take 14 (.take 15 (.take 16 (.take 17 (.take 18 (.take 19 (.take 20 (.take 21 (.take 22 (.take 23 (.take 24 (.take 25 (.take 26 (.take 27 (.take 28 (.take 29 (.take 30 (.take 31 (.take 32 (.take 33 (.take 34 (.take 35 (.take 36 (.take 37 (.take 38 (.take 39 (.take 40 (.take 41 (.take 42 (.take 43 (.take 44 (.take 45 (.take 46 (.take 47 (.take 48 (.take 49 (.take 50 (.take 51 (.take 52 (.take 53 (.take 54 (.take 55 (.take 56 (.take 57 (.take 58 (.take 59 (.take 60 (.take 61 (.take 62 (.take 63 (.take 64 (.take 65 (.take 66 (.take 67 .done)))))))))))))))))))))))))))))))))))))))))))))))))))))))))))))))))))) mixed (by kernel_rfl) fun w1132 hh1133 hk1134 => ?_
                            have ka1135 := (Kp.then0 ka1108 hk1134)
                            refine o_y rfl (y_move (v := (.slice (some ⟨rb911, 0, none⟩) xs9.length cap912)) g1127) ?_
                            refine o_y rfl (y_move (v := (Vi (((j : Nat) : Int)))) g1128) ?_
                            refine o_y rfl (y_idx so63 sz59 rfl (i := j) rfl (by omega)) ?_
                            refine o_y rfl (y_load (v := (.agg #[.int .i64 (z9.id), .int .i64 (z9.binding), u8 z9.peer.addr.a, u8 z9.peer.addr.b, u8 z9.peer.addr.c, u8 z9.peer.addr.d, .int .i64 (z9.peer.port), .int .i64 (z9.state), .int .i64 (z9.due)])) rfl (rd_el ag59 (EltsOn.kp (OwnC.elts ((hC913.kp hk1103 (Nat.ne_of_gt (nt (nt (hi84.lt) (nl hk107.size hk111.size)) hf914))).kp hk1134 id)) id) hz9 (vs := z9.cs) rfl)) ?_
                            refine o_y rfl (y_move (v := (.map (some w38.heap.size))) g1124) ?_
                            refine o_y rfl (y_move (v := (.slice (some ⟨rb911, 0, none⟩) xs9.length cap912)) g1127) ?_
                            refine o_y rfl (y_move (v := (Vi (((j : Nat) : Int)))) g1128) ?_
                            refine o_y rfl (y_idx so63 sz59 rfl (i := j) rfl (by omega)) ?_
                            refine o_y rfl (y_fld fo59_0 rfl) ?_
                            refine o_y rfl (y_load (v := (Vi (z9.id))) rfl (rd_ef sc3 (EltsOn.kp (OwnC.elts ((hC913.kp hk1103 (Nat.ne_of_gt (nt (nt (hi84.lt) (nl hk107.size hk111.size)) hf914))).kp hk1134 id)) id) hz9 rfl)) ?_
                            refine o_y rfl (y_lookup_some kf3 Tryd.underlying73 ze59 (MapOn.kp (hi1106.kp hk1134 id) id) rfl rfl (show inI z9.id from inI_of (by omega) (by omega)) hag9) ?_
                            refine o_y rfl (y_neqT (eq59 9996) eg59 (x := z9) (y := z9) rfl rfl ⟨_, rfl⟩ ⟨_, rfl⟩) ?_
                            refine o_y rfl (y_move (v := (.bool (decide (z9 ≠ z9)))) rfl) ?_
                            by_cases c1136 : z9 ≠ z9
                            · exact absurd rfl c1136
                            · refine o_gy rfl (.yes rfl (congrArg Value.bool (decide_eq_false c1136))) (y_move (v := (.slice (some ⟨rb911, 0, none⟩) xs9.length cap912)) g1127) ?_
                              refine o_gy rfl (.yes rfl (congrArg Value.bool (decide_eq_false c1136))) (y_move (v := (Vi (((j : Nat) : Int)))) g1128) ?_
                              refine o_gy rfl (.yes rfl (congrArg Value.bool (decide_eq_false c1136))) (y_idx so63 sz59 rfl (i := j) rfl (by omega)) ?_
                              refine o_gy rfl (.yes rfl (congrArg Value.bool (decide_eq_false c1136))) (y_fld fo59_4 rfl) ?_
                              refine o_gy rfl (.yes rfl (congrArg Value.bool (decide_eq_false c1136))) (y_load (v := (Vi (z9.due))) rfl (rd_ef sc3 (EltsOn.kp (OwnC.elts ((hC913.kp hk1103 (Nat.ne_of_gt (nt (nt (hi84.lt) (nl hk107.size hk111.size)) hf914))).kp hk1134 id)) id) hz9 rfl)) ?_
                              refine o_gy rfl (.yes rfl (congrArg Value.bool (decide_eq_false c1136))) (y_fld fo57_6 g1126) ?_
                              refine o_gy rfl (.yes rfl (congrArg Value.bool (decide_eq_false c1136))) (y_load (v := (Vi (x9.d))) rfl (rd_sc sc3 (On.kp (hk1134.get0 (hk1103.get ((SNx.kp hn910).get hb110 hni905) (Nat.ne_of_gt (nt (hi84.lt) (Nat.le_refl _))))) id) rfl)) ?_
                              refine o_gy rfl (.yes rfl (congrArg Value.bool (decide_eq_false c1136))) (y_gtr rfl rfl) ?_
                              refine o_y rfl (y_pick_f (congrArg Value.bool (decide_eq_false c1136)) (v := (.bool (decide ((x9.d : Int) < z9.due)))) rfl) ?_
                              refine o_y rfl (y_move (v := (.bool (decide ((x9.d : Int) < z9.due)))) rfl) ?_
                              by_cases c1137 : (x9.d : Int) < z9.due
                              · omega
                              · refine o_gy rfl (.yes rfl (congrArg Value.bool (decide_eq_false c1137))) (y_move (v := (Vi (((j : Nat) : Int)))) g1128) ?_
                                refine o_gy rfl (.yes rfl (congrArg Value.bool (decide_eq_false c1137))) (y_gtr rfl rfl) ?_
                                refine o_gy rfl (.yes rfl (congrArg Value.bool (decide_eq_false c1137))) (y_move (v := (.bool (decide ((0 : Int) < ((j : Nat) : Int))))) rfl) ?_
                                by_cases c1138 : (0 : Int) < ((j : Nat) : Int)
                                · refine o_gy rfl (.yes rfl (congrArg Value.bool (decide_eq_true c1138))) (y_move (v := (.slice (some ⟨rb911, 0, none⟩) xs9.length cap912)) g1127) ?_
                                  refine o_gy rfl (.yes rfl (congrArg Value.bool (decide_eq_true c1138))) (y_move (v := (Vi (((j : Nat) : Int)))) g1128) ?_
                                  obtain ⟨y9, hy9, hso9⟩ := hpv9 (by omega)
                                  refine o_gy rfl (.yes rfl (congrArg Value.bool (decide_eq_true c1138))) (y_sub rfl rfl (c := ((j - 1 : Nat) : Int)) (by omega) (by omega)) ?_
                                  refine o_gy rfl (.yes rfl (congrArg Value.bool (decide_eq_true c1138))) (y_idx so63 sz59 rfl (i := (j - 1)) rfl (by omega)) ?_
                                  refine o_gy rfl (.yes rfl (congrArg Value.bool (decide_eq_true c1138))) (y_fld fo59_4 rfl) ?_
                                  refine o_gy rfl (.yes rfl (congrArg Value.bool (decide_eq_true c1138))) (y_load (v := (Vi (y9.due))) rfl (rd_ef sc3 (EltsOn.kp (OwnC.elts ((hC913.kp hk1103 (Nat.ne_of_gt (nt (nt (hi84.lt) (nl hk107.size hk111.size)) hf914))).kp hk1134 id)) id) hy9 rfl)) ?_
                                  refine o_gy rfl (.yes rfl (congrArg Value.bool (decide_eq_true c1138))) (y_move (v := (.slice (some ⟨rb911, 0, none⟩) xs9.length cap912)) g1127) ?_
                                  refine o_gy rfl (.yes rfl (congrArg Value.bool (decide_eq_true c1138))) (y_move (v := (Vi (((j : Nat) : Int)))) g1128) ?_
                                  refine o_gy rfl (.yes rfl (congrArg Value.bool (decide_eq_true c1138))) (y_idx so63 sz59 rfl (i := j) rfl (by omega)) ?_
                                  refine o_gy rfl (.yes rfl (congrArg Value.bool (decide_eq_true c1138))) (y_fld fo59_4 rfl) ?_
                                  refine o_gy rfl (.yes rfl (congrArg Value.bool (decide_eq_true c1138))) (y_load (v := (Vi (z9.due))) rfl (rd_ef sc3 (EltsOn.kp (OwnC.elts ((hC913.kp hk1103 (Nat.ne_of_gt (nt (nt (hi84.lt) (nl hk107.size hk111.size)) hf914))).kp hk1134 id)) id) hz9 rfl)) ?_
                                  refine o_gy rfl (.yes rfl (congrArg Value.bool (decide_eq_true c1138))) (y_gtr rfl rfl) ?_
                                  refine o_gy rfl (.yes rfl (congrArg Value.bool (decide_eq_true c1138))) (y_move (v := (.bool (decide ((z9.due : Int) < y9.due)))) rfl) ?_
                                  by_cases c1139 : (z9.due : Int) < y9.due
                                  · omega
                                  · refine o_gy rfl (.yes rfl (congrArg Value.bool (decide_eq_false c1139))) (y_move (v := (.slice (some ⟨rb911, 0, none⟩) xs9.length cap912)) g1127) ?_
                                    refine o_gy rfl (.yes rfl (congrArg Value.bool (decide_eq_false c1139))) (y_move (v := (Vi (((j : Nat) : Int)))) g1128) ?_
                                    refine o_gy rfl (.yes rfl (congrArg Value.bool (decide_eq_false c1139))) (y_sub rfl rfl (c := ((j - 1 : Nat) : Int)) (by omega) (by omega)) ?_
                                    refine o_gy rfl (.yes rfl (congrArg Value.bool (decide_eq_false c1139))) (y_idx so63 sz59 rfl (i := (j - 1)) rfl (by omega)) ?_
                                    refine o_gy rfl (.yes rfl (congrArg Value.bool (decide_eq_false c1139))) (y_fld fo59_4 rfl) ?_
                                    refine o_gy rfl (.yes rfl (congrArg Value.bool (decide_eq_false c1139))) (y_load (v := (Vi (y9.due))) rfl (rd_ef sc3 (EltsOn.kp (OwnC.elts ((hC913.kp hk1103 (Nat.ne_of_gt (nt (nt (hi84.lt) (nl hk107.size hk111.size)) hf914))).kp hk1134 id)) id) hy9 rfl)) ?_
                                    refine o_gy rfl (.yes rfl (congrArg Value.bool (decide_eq_false c1139))) (y_move (v := (.slice (some ⟨rb911, 0, none⟩) xs9.length cap912)) g1127) ?_
                                    refine o_gy rfl (.yes rfl (congrArg Value.bool (decide_eq_false c1139))) (y_move (v := (Vi (((j : Nat) : Int)))) g1128) ?_
                                    refine o_gy rfl (.yes rfl (congrArg Value.bool (decide_eq_false c1139))) (y_idx so63 sz59 rfl (i := j) rfl (by omega)) ?_
                                    refine o_gy rfl (.yes rfl (congrArg Value.bool (decide_eq_false c1139))) (y_fld fo59_4 rfl) ?_
                                    refine o_gy rfl (.yes rfl (congrArg Value.bool (decide_eq_false c1139))) (y_load (v := (Vi (z9.due))) rfl (rd_ef sc3 (EltsOn.kp (OwnC.elts ((hC913.kp hk1103 (Nat.ne_of_gt (nt (nt (hi84.lt) (nl hk107.size hk111.size)) hf914))).kp hk1134 id)) id) hz9 rfl)) ?_
                                    refine o_gy rfl (.yes rfl (congrArg Value.bool (decide_eq_false c1139))) (y_eql rfl rfl) ?_
                                    refine o_gy rfl (.yes rfl (congrArg Value.bool (decide_eq_false c1139))) (y_move (v := (.bool (decide ((y9.due : Int) = z9.due)))) rfl) ?_
                                    by_cases c1140 : (y9.due : Int) = z9.due
                                    · refine o_gy rfl (.yes rfl (congrArg Value.bool (decide_eq_true c1140))) (y_move (v := (.slice (some ⟨rb911, 0, none⟩) xs9.length cap912)) g1127) ?_
                                      refine o_gy rfl (.yes rfl (congrArg Value.bool (decide_eq_true c1140))) (y_move (v := (Vi (((j : Nat) : Int)))) g1128) ?_
                                      refine o_gy rfl (.yes rfl (congrArg Value.bool (decide_eq_true c1140))) (y_sub rfl rfl (c := ((j - 1 : Nat) : Int)) (by omega) (by omega)) ?_
                                      refine o_gy rfl (.yes rfl (congrArg Value.bool (decide_eq_true c1140))) (y_idx so63 sz59 rfl (i := (j - 1)) rfl (by omega)) ?_
                                      refine o_gy rfl (.yes rfl (congrArg Value.bool (decide_eq_true c1140))) (y_fld fo59_0 rfl) ?_
                                      refine o_gy rfl (.yes rfl (congrArg Value.bool (decide_eq_true c1140))) (y_load (v := (Vi (y9.id))) rfl (rd_ef sc3 (EltsOn.kp (OwnC.elts ((hC913.kp hk1103 (Nat.ne_of_gt (nt (nt (hi84.lt) (nl hk107.size hk111.size)) hf914))).kp hk1134 id)) id) hy9 rfl)) ?_
                                      refine o_gy rfl (.yes rfl (congrArg Value.bool (decide_eq_true c1140))) (y_move (v := (.slice (some ⟨rb911, 0, none⟩) xs9.length cap912)) g1127) ?_
                                      refine o_gy rfl (.yes rfl (congrArg Value.bool (decide_eq_true c1140))) (y_move (v := (Vi (((j : Nat) : Int)))) g1128) ?_
                                      refine o_gy rfl (.yes rfl (congrArg Value.bool (decide_eq_true c1140))) (y_idx so63 sz59 rfl (i := j) rfl (by omega)) ?_
                                      refine o_gy rfl (.yes rfl (congrArg Value.bool (decide_eq_true c1140))) (y_fld fo59_0 rfl) ?_
                                      refine o_gy rfl (.yes rfl (congrArg Value.bool (decide_eq_true c1140))) (y_load (v := (Vi (z9.id))) rfl (rd_ef sc3 (EltsOn.kp (OwnC.elts ((hC913.kp hk1103 (Nat.ne_of_gt (nt (nt (hi84.lt) (nl hk107.size hk111.size)) hf914))).kp hk1134 id)) id) hz9 rfl)) ?_
                                      refine o_gy rfl (.yes rfl (congrArg Value.bool (decide_eq_true c1140))) (y_geq rfl rfl) ?_
                                      refine o_gy rfl (.yes rfl (congrArg Value.bool (decide_eq_false c1139))) (y_pick_t (congrArg Value.bool (decide_eq_true c1140)) (v := (.bool (decide ((z9.id : Int) ≤ y9.id)))) rfl) ?_
                                      refine o_gy rfl (.yes rfl (congrArg Value.bool (decide_eq_true c1138))) (y_pick_f (congrArg Value.bool (decide_eq_false c1139)) (v := (.bool (decide ((z9.id : Int) ≤ y9.id)))) rfl) ?_
                                      refine o_gy rfl (.yes rfl (congrArg Value.bool (decide_eq_false c1137))) (y_pick_t (congrArg Value.bool (decide_eq_true c1138)) (v := (.bool (decide ((z9.id : Int) ≤ y9.id)))) rfl) ?_
                                      refine o_y rfl (y_pick_f (congrArg Value.bool (decide_eq_false c1137)) (v := (.bool (decide ((z9.id : Int) ≤ y9.id)))) rfl) ?_
                                      refine o_done (hK1131 _ _ (genC [(0, (Vi max)), (1, (.slice (some ⟨ab, ao, none⟩) n c)), (5, (Vp g.tb 0)), (7, (.map (some w38.heap.size))), (8, (Vi (((i : Nat) : Int)))), (9, (Vp w79.heap.size 0)), (15, (.slice (some ⟨rb911, 0, none⟩) xs9.length cap912)), (16, (Vi (((j : Nat) : Int)))), (207, (.bool (decide ((z9.id : Int) ≤ y9.id))))] ⟨g1121, g1122, g1123, g1124, g1125, g1126, g1127, g1128, rfl, trivial⟩ ?_))
                                      clear hK1131; rintro E ⟨g1141, g1142, g1143, g1144, g1145, g1146, g1147, g1148, g1149, -⟩
                                      refine cond_d g1149 (fun c1150 => ?_) (fun c1150 => ?_)
                                      · omega
                                      · refine skip (hK1130 _ _ (genC [(0, (Vi max)), (1, (.slice (some ⟨ab, ao, none⟩) n c)), (5, (Vp g.tb 0)), (7, (.map (some w38.heap.size))), (8, (Vi (((i : Nat) : Int)))), (9, (Vp w79.heap.size 0)), (15, (.slice (some ⟨rb911, 0, none⟩) xs9.length cap912)), (16, (Vi (((j : Nat) : Int))))] ⟨g1141, g1142, g1143, g1144, g1145, g1146, g1147, g1148, trivial⟩ ?_))
                                        clear hK1130; rintro E ⟨g1151, g1152, g1153, g1154, g1155, g1156, g1157, g1158, -⟩
                                        refine reg ?_
                                        refine s_y (y_move (v := (.map (some w38.heap.size))) g1154) rfl ?_
                                        refine s_y (y_move (v := (.slice (some ⟨rb911, 0, none⟩) xs9.length cap912)) g1157) rfl ?_
                                        refine s_y (y_move (v := (Vi (((j : Nat) : Int)))) g1158) rfl ?_
                                        refine s_y (y_idx so63 sz59 rfl (i := j) rfl (by omega)) rfl ?_
                                        refine s_y (y_fld fo59_0 rfl) rfl ?_
                                        have hf1159 := ((hC913.kp hk1103 (Nat.ne_of_gt (nt (nt (hi84.lt) (nl hk107.size hk111.size)) hf914))).kp hk1134 id)
                                        refine s_y (y_load (v := (Vi (z9.id))) rfl (rd_ef sc3 (EltsOn.now (OwnC.elts hf1159)) hz9 rfl)) rfl ?_
                                        have hf1160 := (hi1106.kp hk1134 id)
                                        refine s_e0 (e_delete kf3 Tryd.underlying73 hf1160 rfl rfl (show inI z9.id from inI_of (by omega) (by omega))) ?_
                                        rintro _ w1161 ⟨hm1162, hk1163⟩
                                        have ka1164 := (Kp.fresh ka1135 hk1163 fun _ e => nl (nl hk39.size (Nat.le_refl _)) (Nat.le_of_eq e.symm))
                                        refine s_nil (hK1129 _ _ (genC [(0, (Vi max)), (1, (.slice (some ⟨ab, ao, none⟩) n c)), (5, (Vp g.tb 0)), (7, (.map (some w38.heap.size))), (8, (Vi (((i : Nat) : Int)))), (9, (Vp w79.heap.size 0)), (15, (.slice (some ⟨rb911, 0, none⟩) xs9.length cap912)), (16, (Vi (((j : Nat) : Int))))] ⟨g1151, g1152, g1153, g1154, g1155, g1156, g1157, g1158, trivial⟩ ?_))
                                        clear hK1129; rintro E ⟨g1165, g1166, g1167, g1168, g1169, g1170, g1171, g1172, -⟩
                                        refine reg ?_
                                        refine s_y (y_move (v := (Vi (((j : Nat) : Int)))) g1172) rfl ?_
                                        refine s_y (y_add rfl rfl (c := ((j : Nat) : Int) + 1) (by omega) rfl) rfl ?_
                                        refine s_y (y_assign (v := (Vi (((j : Nat) : Int) + 1))) rfl) rfl ?_
                                        have kc1173 : Kp (· = w38.heap.size) w907 w1102 := (Kp.trans (Kp.refl _ _) hk1103 (fun _ _ e => e))
                                        have kc1174 : Kp (· = w38.heap.size) w907 w1132 := (Kp.then0 kc1173 hk1134)
                                        have kc1175 : Kp (· = w38.heap.size) w907 w1161 := (Kp.trans kc1174 hk1163 (fun _ _ e => e))
                                        exact s_nil (hK1104 ((j + 1), (adel mj z9.id)) _ _ ⟨⟨g1165, g1166, g1167, g1168, g1169, g1170, g1171, rfl, trivial⟩, kc1175, (show (j + 1) ≤ xs9.length from (by omega)), (show SMap w1161 w38.heap.size (adel mj z9.id) from hm1162), (show (adel mj z9.id).Perm (pairsM (xs9.drop (j + 1) ++ (popX a x9.d).L)) from (mm_pop hmj9 hpz9))⟩ (by show (xs9.length - (j + 1)) < (xs9.length - j); omega))
                                    · refine o_no rfl (.no rfl (c := false) (congrArg Value.bool (decide_eq_false c1140)) rfl) ?_
                                      refine o_no rfl (.no rfl (c := false) (congrArg Value.bool (decide_eq_false c1140)) rfl) ?_
                                      refine o_no rfl (.no rfl (c := false) (congrArg Value.bool (decide_eq_false c1140)) rfl) ?_
                                      refine o_no rfl (.no rfl (c := false) (congrArg Value.bool (decide_eq_false c1140)) rfl) ?_
                                      refine o_no rfl (.no rfl (c := false) (congrArg Value.bool (decide_eq_false c1140)) rfl) ?_
                                      refine o_no rfl (.no rfl (c := false) (congrArg Value.bool (decide_eq_false c1140)) rfl) ?_
                                      refine o_no rfl (.no rfl (c := false) (congrArg Value.bool (decide_eq_false c1140)) rfl) ?_
                                      refine o_no rfl (.no rfl (c := false) (congrArg Value.bool (decide_eq_false c1140)) rfl) ?_
                                      refine o_no rfl (.no rfl (c := false) (congrArg Value.bool (decide_eq_false c1140)) rfl) ?_
                                      refine o_no rfl (.no rfl (c := false) (congrArg Value.bool (decide_eq_false c1140)) rfl) ?_
                                      refine o_no rfl (.no rfl (c := false) (congrArg Value.bool (decide_eq_false c1140)) rfl) ?_
                                      refine o_no rfl (.no rfl (c := false) (congrArg Value.bool (decide_eq_false c1140)) rfl) ?_
                                      refine o_gy rfl (.yes rfl (congrArg Value.bool (decide_eq_false c1139))) (y_pick_f (congrArg Value.bool (decide_eq_false c1140)) (v := Vf) rfl) ?_
                                      refine o_gy rfl (.yes rfl (congrArg Value.bool (decide_eq_true c1138))) (y_pick_f (congrArg Value.bool (decide_eq_false c1139)) (v := Vf) rfl) ?_
                                      refine o_gy rfl (.yes rfl (congrArg Value.bool (decide_eq_false c1137))) (y_pick_t (congrArg Value.bool (decide_eq_true c1138)) (v := Vf) rfl) ?_
                                      refine o_y rfl (y_pick_f (congrArg Value.bool (decide_eq_false c1137)) (v := Vf) rfl) ?_
                                      refine o_done (hK1131 _ _ (genC [(0, (Vi max)), (1, (.slice (some ⟨ab, ao, none⟩) n c)), (5, (Vp g.tb 0)), (7, (.map (some w38.heap.size))), (8, (Vi (((i : Nat) : Int)))), (9, (Vp w79.heap.size 0)), (15, (.slice (some ⟨rb911, 0, none⟩) xs9.length cap912)), (16, (Vi (((j : Nat) : Int)))), (207, Vf)] ⟨g1121, g1122, g1123, g1124, g1125, g1126, g1127, g1128, rfl, trivial⟩ ?_))
                                      clear hK1131; rintro E ⟨g1176, g1177, g1178, g1179, g1180, g1181, g1182, g1183, g1184, -⟩
                                      refine cond_f g1184 ?_
                                      refine skip (hK1130 _ _ (genC [(0, (Vi max)), (1, (.slice (some ⟨ab, ao, none⟩) n c)), (5, (Vp g.tb 0)), (7, (.map (some w38.heap.size))), (8, (Vi (((i : Nat) : Int)))), (9, (Vp w79.heap.size 0)), (15, (.slice (some ⟨rb911, 0, none⟩) xs9.length cap912)), (16, (Vi (((j : Nat) : Int))))] ⟨g1176, g1177, g1178, g1179, g1180, g1181, g1182, g1183, trivial⟩ ?_))
                                      clear hK1130; rintro E ⟨g1185, g1186, g1187, g1188, g1189, g1190, g1191, g1192, -⟩
                                      refine reg ?_
                                      refine s_y (y_move (v := (.map (some w38.heap.size))) g1188) rfl ?_
                                      refine s_y (y_move (v := (.slice (some ⟨rb911, 0, none⟩) xs9.length cap912)) g1191) rfl ?_
                                      refine s_y (y_move (v := (Vi (((j : Nat) : Int)))) g1192) rfl ?_
                                      refine s_y (y_idx so63 sz59 rfl (i := j) rfl (by omega)) rfl ?_
                                      refine s_y (y_fld fo59_0 rfl) rfl ?_
                                      have hf1193 := ((hC913.kp hk1103 (Nat.ne_of_gt (nt (nt (hi84.lt) (nl hk107.size hk111.size)) hf914))).kp hk1134 id)
                                      refine s_y (y_load (v := (Vi (z9.id))) rfl (rd_ef sc3 (EltsOn.now (OwnC.elts hf1193)) hz9 rfl)) rfl ?_
                                      have hf1194 := (hi1106.kp hk1134 id)
                                      refine s_e0 (e_delete kf3 Tryd.underlying73 hf1194 rfl rfl (show inI z9.id from inI_of (by omega) (by omega))) ?_
                                      rintro _ w1195 ⟨hm1196, hk1197⟩
                                      have ka1198 := (Kp.fresh ka1135 hk1197 fun _ e => nl (nl hk39.size (Nat.le_refl _)) (Nat.le_of_eq e.symm))
                                      refine s_nil (hK1129 _ _ (genC [(0, (Vi max)), (1, (.slice (some ⟨ab, ao, none⟩) n c)), (5, (Vp g.tb 0)), (7, (.map (some w38.heap.size))), (8, (Vi (((i : Nat) : Int)))), (9, (Vp w79.heap.size 0)), (15, (.slice (some ⟨rb911, 0, none⟩) xs9.length cap912)), (16, (Vi (((j : Nat) : Int))))] ⟨g1185, g1186, g1187, g1188, g1189, g1190, g1191, g1192, trivial⟩ ?_))
                                      clear hK1129; rintro E ⟨g1199, g1200, g1201, g1202, g1203, g1204, g1205, g1206, -⟩
                                      refine reg ?_
                                      refine s_y (y_move (v := (Vi (((j : Nat) : Int)))) g1206) rfl ?_
                                      refine s_y (y_add rfl rfl (c := ((j : Nat) : Int) + 1) (by omega) rfl) rfl ?_
                                      refine s_y (y_assign (v := (Vi (((j : Nat) : Int) + 1))) rfl) rfl ?_
                                      have kc1207 : Kp (· = w38.heap.size) w907 w1102 := (Kp.trans (Kp.refl _ _) hk1103 (fun _ _ e => e))
                                      have kc1208 : Kp (· = w38.heap.size) w907 w1132 := (Kp.then0 kc1207 hk1134)
                                      have kc1209 : Kp (· = w38.heap.size) w907 w1195 := (Kp.trans kc1208 hk1197 (fun _ _ e => e))
                                      exact s_nil (hK1104 ((j + 1), (adel mj z9.id)) _ _ ⟨⟨g1199, g1200, g1201, g1202, g1203, g1204, g1205, rfl, trivial⟩, kc1209, (show (j + 1) ≤ xs9.length from (by omega)), (show SMap w1195 w38.heap.size (adel mj z9.id) from hm1196), (show (adel mj z9.id).Perm (pairsM (xs9.drop (j + 1) ++ (popX a x9.d).L)) from (mm_pop hmj9 hpz9))⟩ (by show (xs9.length - (j + 1)) < (xs9.length - j); omega))
                                · refine o_no rfl (.no rfl (c := false) (congrArg Value.bool (decide_eq_false c1138)) rfl) ?_
                                  refine o_no rfl (.no rfl (c := false) (congrArg Value.bool (decide_eq_false c1138)) rfl) ?_
                                  refine o_no rfl (.no rfl (c := false) (congrArg Value.bool (decide_eq_false c1138)) rfl) ?_
                                  refine o_no rfl (.no rfl (c := false) (congrArg Value.bool (decide_eq_false c1138)) rfl) ?_
                                  refine o_no rfl (.no rfl (c := false) (congrArg Value.bool (decide_eq_false c1138)) rfl) ?_
                                  refine o_no rfl (.no rfl (c := false) (congrArg Value.bool (decide_eq_false c1138)) rfl) ?_
                                  refine o_no rfl (.no rfl (c := false) (congrArg Value.bool (decide_eq_false c1138)) rfl) ?_
                                  refine o_no rfl (.no rfl (c := false) (congrArg Value.bool (decide_eq_false c1138)) rfl) ?_
                                  refine o_no rfl (.no rfl (c := false) (congrArg Value.bool (decide_eq_false c1138)) rfl) ?_
                                  refine o_no rfl (.no rfl (c := false) (congrArg Value.bool (decide_eq_false c1138)) rfl) ?_
                                  refine o_no rfl (.no rfl (c := false) (congrArg Value.bool (decide_eq_false c1138)) rfl) ?_
                                  refine o_no rfl (.no rfl (c := false) (congrArg Value.bool (decide_eq_false c1138)) rfl) ?_
                                  refine o_no rfl (.no rfl (c := false) (congrArg Value.bool (decide_eq_false c1138)) rfl) ?_
                                  refine o_no rfl (.off rfl rfl) ?_
                                  refine o_no rfl (.off rfl rfl) ?_
                                  refine o_no rfl (.off rfl rfl) ?_
                                  refine o_no rfl (.off rfl rfl) ?_
                                  refine o_no rfl (.off rfl rfl) ?_
                                  refine o_no rfl (.off rfl rfl) ?_
                                  refine o_no rfl (.off rfl rfl) ?_
                                  refine o_no rfl (.off rfl rfl) ?_
                                  refine o_no rfl (.off rfl rfl) ?_
                                  refine o_no rfl (.off rfl rfl) ?_
                                  refine o_no rfl (.off rfl rfl) ?_
                                  refine o_no rfl (.off rfl rfl) ?_
                                  refine o_no rfl (.off rfl rfl) ?_
                                  refine o_no rfl (.off rfl rfl) ?_
                                  refine o_no rfl (.off rfl rfl) ?_
                                  refine o_no rfl (.off rfl rfl) ?_
                                  refine o_no rfl (.off rfl rfl) ?_
                                  refine o_no rfl (.off rfl rfl) ?_
                                  refine o_no rfl (.off rfl rfl) ?_
                                  refine o_no rfl (.off rfl rfl) ?_
                                  refine o_no rfl (.off rfl rfl) ?_
                                  refine o_no rfl (.off rfl rfl) ?_
                                  refine o_no rfl (.off rfl rfl) ?_
                                  refine o_no rfl (.off rfl rfl) ?_
                                  refine o_no rfl (.off rfl rfl) ?_
                                  refine o_no rfl (.off rfl rfl) ?_
                                  refine o_no rfl (.no rfl (c := false) (congrArg Value.bool (decide_eq_false c1138)) rfl) ?_
                                  refine o_gy rfl (.yes rfl (congrArg Value.bool (decide_eq_false c1137))) (y_pick_f (congrArg Value.bool (decide_eq_false c1138)) (v := Vf) rfl) ?_
                                  refine o_y rfl (y_pick_f (congrArg Value.bool (decide_eq_false c1137)) (v := Vf) rfl) ?_
                                  refine o_done (hK1131 _ _ (genC [(0, (Vi max)), (1, (.slice (some ⟨ab, ao, none⟩) n c)), (5, (Vp g.tb 0)), (7, (.map (some w38.heap.size))), (8, (Vi (((i : Nat) : Int)))), (9, (Vp w79.heap.size 0)), (15, (.slice (some ⟨rb911, 0, none⟩) xs9.length cap912)), (16, (Vi (((j : Nat) : Int)))), (207, Vf)] ⟨g1121, g1122, g1123, g1124, g1125, g1126, g1127, g1128, rfl, trivial⟩ ?_))
                                  clear hK1131; rintro E ⟨g1210, g1211, g1212, g1213, g1214, g1215, g1216, g1217, g1218, -⟩
                                  refine cond_f g1218 ?_
                                  refine skip (hK1130 _ _ (genC [(0, (Vi max)), (1, (.slice (some ⟨ab, ao, none⟩) n c)), (5, (Vp g.tb 0)), (7, (.map (some w38.heap.size))), (8, (Vi (((i : Nat) : Int)))), (9, (Vp w79.heap.size 0)), (15, (.slice (some ⟨rb911, 0, none⟩) xs9.length cap912)), (16, (Vi (((j : Nat) : Int))))] ⟨g1210, g1211, g1212, g1213, g1214, g1215, g1216, g1217, trivial⟩ ?_))
                                  clear hK1130; rintro E ⟨g1219, g1220, g1221, g1222, g1223, g1224, g1225, g1226, -⟩
                                  refine reg ?_
                                  refine s_y (y_move (v := (.map (some w38.heap.size))) g1222) rfl ?_
                                  refine s_y (y_move (v := (.slice (some ⟨rb911, 0, none⟩) xs9.length cap912)) g1225) rfl ?_
                                  refine s_y (y_move (v := (Vi (((j : Nat) : Int)))) g1226) rfl ?_
                                  refine s_y (y_idx so63 sz59 rfl (i := j) rfl (by omega)) rfl ?_
                                  refine s_y (y_fld fo59_0 rfl) rfl ?_
                                  have hf1227 := ((hC913.kp hk1103 (Nat.ne_of_gt (nt (nt (hi84.lt) (nl hk107.size hk111.size)) hf914))).kp hk1134 id)
                                  refine s_y (y_load (v := (Vi (z9.id))) rfl (rd_ef sc3 (EltsOn.now (OwnC.elts hf1227)) hz9 rfl)) rfl ?_
                                  have hf1228 := (hi1106.kp hk1134 id)
                                  refine s_e0 (e_delete kf3 Tryd.underlying73 hf1228 rfl rfl (show inI z9.id from inI_of (by omega) (by omega))) ?_
                                  rintro _ w1229 ⟨hm1230, hk1231⟩
                                  have ka1232 := (Kp.fresh ka1135 hk1231 fun _ e => nl (nl hk39.size (Nat.le_refl _)) (Nat.le_of_eq e.symm))
                                  refine s_nil (hK1129 _ _ (genC [(0, (Vi max)), (1, (.slice (some ⟨ab, ao, none⟩) n c)), (5, (Vp g.tb 0)), (7, (.map (some w38.heap.size))), (8, (Vi (((i : Nat) : Int)))), (9, (Vp w79.heap.size 0)), (15, (.slice (some ⟨rb911, 0, none⟩) xs9.length cap912)), (16, (Vi (((j : Nat) : Int))))] ⟨g1219, g1220, g1221, g1222, g1223, g1224, g1225, g1226, trivial⟩ ?_))
                                  clear hK1129; rintro E ⟨g1233, g1234, g1235, g1236, g1237, g1238, g1239, g1240, -⟩
                                  refine reg ?_
                                  refine s_y (y_move (v := (Vi (((j : Nat) : Int)))) g1240) rfl ?_
                                  refine s_y (y_add rfl rfl (c := ((j : Nat) : Int) + 1) (by omega) rfl) rfl ?_
                                  refine s_y (y_assign (v := (Vi (((j : Nat) : Int) + 1))) rfl) rfl ?_
                                  have kc1241 : Kp (· = w38.heap.size) w907 w1102 := (Kp.trans (Kp.refl _ _) hk1103 (fun _ _ e => e))
                                  have kc1242 : Kp (· = w38.heap.size) w907 w1132 := (Kp.then0 kc1241 hk1134)
                                  have kc1243 : Kp (· = w38.heap.size) w907 w1229 := (Kp.trans kc1242 hk1231 (fun _ _ e => e))
                                  exact s_nil (hK1104 ((j + 1), (adel mj z9.id)) _ _ ⟨⟨g1233, g1234, g1235, g1236, g1237, g1238, g1239, rfl, trivial⟩, kc1243, (show (j + 1) ≤ xs9.length from (by omega)), (show SMap w1229 w38.heap.size (adel mj z9.id) from hm1230), (show (adel mj z9.id).Perm (pairsM (xs9.drop (j + 1) ++ (popX a x9.d).L)) from (mm_pop hmj9 hpz9))⟩ (by show (xs9.length - (j + 1)) < (xs9.length - j); omega))
                          · have hje9 : j = xs9.length := by omega
                            have hpe9 : mj.Perm (pairsM (popX a x9.d).L) := by have h9 := hpj9; rw [hje9, List.drop_length] at h9; exact h9
                            refine exit (hK1083 _ _ (genC [(0, (Vi max)), (1, (.slice (some ⟨ab, ao, none⟩) n c)), (5, (Vp g.tb 0)), (7, (.map (some w38.heap.size))), (8, (Vi (((i : Nat) : Int)))), (9, (Vp w79.heap.size 0))] ⟨g1111, g1112, g1113, g1114, g1115, g1116, trivial⟩ ?_))
                            clear hK1083; rintro E ⟨g1244, g1245, g1246, g1247, g1248, g1249, -⟩
                            refine seq fun K1250 hK1250 => ?_
                            refine reg ?_
                            refine s_y (y_move (v := (.map (some w38.heap.size))) g1247) rfl ?_
                            refine s_e (e_range Tryd.underlying73 hi1106 rfl) rfl ?_
                            rintro _ w1251 ⟨rfl, hit1252, hk1253⟩
                            have ka1254 := (Kp.then0 ka1108 hk1253)
                            refine s_nil (hK1250 _ _ (genC [(0, (Vi max)), (1, (.slice (some ⟨ab, ao, none⟩) n c)), (5, (Vp g.tb 0)), (7, (.map (some w38.heap.size))), (8, (Vi (((i : Nat) : Int)))), (9, (Vp w79.heap.size 0)), (215, (Vp w1102.heap.size 0))] ⟨g1244, g1245, g1246, g1247, g1248, g1249, rfl, trivial⟩ ?_))
                            clear hK1250; rintro E ⟨g1255, g1256, g1257, g1258, g1259, g1260, g1261, -⟩
                            refine block ?_
                            have hal9 : ∀ p ∈ mj, x9.d < p.2.due := fun p hp => by
                              obtain ⟨s, hs, rfl⟩ := List.mem_map.1 ((hpe9 : List.Perm _ _).mem_iff.1 hp); have h9 := (List.mem_filter.1 hs).2; simpa using h9
                            refine loopG (X := List (Int × Session)) (fun q_ E w_ => Has E [(0, (Vi max)), (1, (.slice (some ⟨ab, ao, none⟩) n c)), (5, (Vp g.tb 0)), (7, (.map (some w38.heap.size))), (8, (Vi (((i : Nat) : Int)))), (9, (Vp w79.heap.size 0)), (215, (Vp w1102.heap.size 0))] ∧ Kp (· = w1102.heap.size) w1251 w_ ∧ (IterAt (fun n : Int => .int .i64 n) sv inI w_ w1102.heap.size w38.heap.size mj q_ none) ∧ (∀ p ∈ q_, x9.d < p.2.due)) (fun q_ => q_.length) mj ⟨⟨g1255, g1256, g1257, g1258, g1259, g1260, g1261, trivial⟩, Kp.refl _ _, (show IterAt (fun n : Int => .int .i64 n) sv inI w1251 w1102.heap.size w38.heap.size mj mj none from (IterAt.forget hit1252)), (show ∀ p ∈ mj, x9.d < p.2.due from hal9)⟩ ?_
                            rintro left E w1269 ⟨⟨g1262, g1263, g1264, g1265, g1266, g1267, g1268, -⟩, hk1270, hi1272, hi1273⟩ K1271 hK1271
                            replace hi1272 : IterAt (fun n : Int => .int .i64 n) sv inI w1269 w1102.heap.size w38.heap.size mj left none := hi1272
                            replace hi1273 : ∀ p ∈ left, x9.d < p.2.due := hi1273
                            have hz1275 := (nl (nl (nl (nl hz113 hk107.size) hk111.size) (SNx.kp hn910).size) hk1103.size)
                            have ka1274 := (Kp.fresh ka1254 hk1270 fun _ e => nl (nl hz1275 (Nat.le_refl _)) (Nat.le_of_eq e.symm))
                            have hal8 := hi1273
                            refine seq fun K1276 hK1276 => ?_
                            refine reg ?_
                            by_cases c1277 : left = []
                            · refine s_e (e_next_done' hi1272 c1277 g1268) rfl ?_
                              rintro _ w1278 ⟨rfl, -, hk1279⟩
                              have ka1280 := (Kp.then0 ka1274 hk1279)
                              refine s_y (y_ext rfl (v := Vf) rfl) rfl ?_
                              refine s_nil (hK1276 _ _ (genC [(0, (Vi max)), (1, (.slice (some ⟨ab, ao, none⟩) n c)), (5, (Vp g.tb 0)), (7, (.map (some w38.heap.size))), (8, (Vi (((i : Nat) : Int)))), (9, (Vp w79.heap.size 0)), (215, (Vp w1102.heap.size 0)), (217, Vf)] ⟨g1262, g1263, g1264, g1265, g1266, g1267, g1268, rfl, trivial⟩ ?_))
                              clear hK1276; rintro E ⟨g1281, g1282, g1283, g1284, g1285, g1286, g1287, g1288, -⟩
                              refine seq fun K1289 hK1289 => ?_
                              refine cond_f g1288 ?_
                              have kc1290 : Kp (fun k => w.heap.size ≤ k) w79 w105 := (Kp.then0 (Kp.refl _ _) hk107)
                              have kc1291 : Kp (fun k => w.heap.size ≤ k) w79 w109 := (Kp.trans kc1290 hk111 fun _ _ e => (fun e => nl (nl hz113 (Nat.le_refl _)) (Nat.le_of_eq e.symm)) e)
                              have kc1292 : Kp (fun k => w.heap.size ≤ k) w79 w907 := (Kp.trans kc1291 (SNx.kp hn910) fun _ _ e => STab.ge hi83 _ e)
                              have kc1293 : Kp (fun k => w.heap.size ≤ k) w79 w1102 := (Kp.trans kc1292 hk1103 fun _ _ e => (fun e => nl (nl hk39.size (Nat.le_refl _)) (Nat.le_of_eq e.symm)) e)
                              have kc1294 : Kp (fun k => w.heap.size ≤ k) w79 w1251 := (Kp.then0 kc1293 hk1253)
                              have kc1295 : Kp (fun k => w.heap.size ≤ k) w79 w1269 := (Kp.trans kc1294 hk1270 fun _ _ e => (fun e => nl (nl hz1275 (Nat.le_refl _)) (Nat.le_of_eq e.symm)) e)
                              have kc1296 : Kp (fun k => w.heap.size ≤ k) w79 w1278 := (Kp.then0 kc1295 hk1279)
                              have hni1297 : w38.heap.size ∉ sfp g s908 := (SNx.notin hn910 hi86 (nt (hi84.lt) (nl hk107.size hk111.size)))
                              have hni1298 : w1102.heap.size ∉ sfp g s908 := (fun e => Nat.lt_irrefl _ (nt (STab.lt (SNx.tab hn910) _ e) (nl hk1103.size (Nat.le_refl _))))
                              have hf1299 := (STab.k0 (STab.kp (STab.k0 (STab.kp (SNx.tab hn910) hk1103 (fun b hb => (fun e => hni1297 (e ▸ hb))) (Nat.ne_of_lt (nt (nt (hT.lt) hk39.size) (Nat.le_refl _)))) hk1253) hk1270 (fun b hb => (fun e => hni1298 (e ▸ hb))) (Nat.ne_of_lt (nt (nt (hT.lt) hz1275) (Nat.le_refl _)))) hk1279)
                              have hf1300 := (((hi1106.kp hk1253 id).kp hk1270 (Nat.ne_of_lt (nt (hi1106.lt) (Nat.le_refl _)))).kp hk1279 id)
                              exact exit (hK121 _ _ ⟨⟨g1281, g1282, g1283, g1284, g1285, trivial⟩, kc1296, _, _, _, hf1299, hf1300, hpe9, hni1297⟩)
                            · refine s_e (e_next_more hi1272 c1277 g1268) rfl ?_
                              rintro _ w1301 ⟨i1304, p1305, hp1306, rfl, hit1303, hk1302⟩
                              have ka1307 := (Kp.fresh ka1274 hk1302 fun _ e => nl (nl hz1275 (Nat.le_refl _)) (Nat.le_of_eq e.symm))
                              have hdl9 := hal8 p1305 (List.mem_of_getElem? hp1306)
                              refine s_y (y_ext rfl (v := Vt) rfl) rfl ?_
                              refine s_nil (hK1276 _ _ (genC [(0, (Vi max)), (1, (.slice (some ⟨ab, ao, none⟩) n c)), (5, (Vp g.tb 0)), (7, (.map (some w38.heap.size))), (8, (Vi (((i : Nat) : Int)))), (9, (Vp w79.heap.size 0)), (215, (Vp w1102.heap.size 0)), (217, Vt)] ⟨g1262, g1263, g1264, g1265, g1266, g1267, g1268, rfl, trivial⟩ ?_))
                              clear hK1276; rintro E ⟨g1308, g1309, g1310, g1311, g1312, g1313, g1314, g1315, -⟩
                              refine seq fun K1316 hK1316 => ?_
                              refine cond_t g1315 ?_
                              refine skip (hK1316 _ _ (genC [(0, (Vi max)), (1, (.slice (some ⟨ab, ao, none⟩) n c)), (5, (Vp g.tb 0)), (7, (.map (some w38.heap.size))), (8, (Vi (((i : Nat) : Int)))), (9, (Vp w79.heap.size 0)), (215, (Vp w1102.heap.size 0))] ⟨g1308, g1309, g1310, g1311, g1312, g1313, g1314, trivial⟩ ?_))
                              clear hK1316; rintro E ⟨g1317, g1318, g1319, g1320, g1321, g1322, g1323, -⟩
                              refine block ?_
                              refine seq fun K1324 hK1324 => ?_
                              refine reg ?_
                              refine s_y (y_entry (p := p1305) hit1303 g1323) rfl ?_
                              refine s_y (y_ext rfl (v := (sv p1305.2)) rfl) rfl ?_
                              refine s_e (e_alloc ze59) rfl ?_
                              rintro _ w1325 ⟨rfl, hb1326, hk1327⟩
                              have ka1328 := (Kp.then0 ka1307 hk1327)
                              refine s_e0 (e_storeV (cs' := p1305.2.cs.toArray) p1305.2.cs rfl (v := (sv p1305.2)) rfl rfl sz59 hb1326 rfl rfl rfl) ?_
                              rintro _ w1329 ⟨hb1330, hk1331⟩
                              have hz1333 := (nl (nl (nl hz1275 hk1253.size) hk1270.size) hk1302.size)
                              have ka1332 := (Kp.fresh ka1328 hk1331 fun _ e => nl (nl hz1333 (Nat.le_refl _)) (Nat.le_of_eq e.symm))
                              refine s_nil (hK1324 _ _ (genC [(0, (Vi max)), (1, (.slice (some ⟨ab, ao, none⟩) n c)), (5, (Vp g.tb 0)), (7, (.map (some w38.heap.size))), (8, (Vi (((i : Nat) : Int)))), (9, (Vp w79.heap.size 0)), (18, (Vp w1301.heap.size 0)), (215, (Vp w1102.heap.size 0))] ⟨g1317, g1318, g1319, g1320, g1321, g1322, rfl, g1323, trivial⟩ ?_))
                              clear hK1324; rintro E ⟨g1334, g1335, g1336, g1337, g1338, g1339, g1340, g1341, -⟩
                              refine seq fun K1342 hK1342 => ?_
                              refine reg ?_
                              refine s_y (y_fld fo59_4 g1340) rfl ?_
                              refine s_y (y_load (v := (Vi (p1305.2.due))) rfl (rd_sc sc3 (On.now hb1330) rfl)) rfl ?_
                              refine s_y (y_fld fo57_6 g1339) rfl ?_
                              have hz1343 := (nl (nl (nl (nl (SNx.kp hn910).size hk1103.size) hk1253.size) hk1270.size) hk1302.size)
                              have hb1344 := (hk1331.get (hk1327.get0 (hk1302.get (hk1270.get (hk1253.get0 (hk1103.get ((SNx.kp hn910).get hb110 hni905) (Nat.ne_of_gt (nt (hi84.lt) (Nat.le_refl _))))) (Nat.ne_of_lt (nt (nt (lt_of_get hb110) (nl (SNx.kp hn910).size hk1103.size)) (Nat.le_refl _)))) (Nat.ne_of_lt (nt (nt (lt_of_get hb110) (nl (SNx.kp hn910).size hk1103.size)) (Nat.le_refl _))))) (Nat.ne_of_lt (nt (nt (lt_of_get hb110) hz1343) (Nat.le_refl _))))
                              refine s_y (y_load (v := (Vi (x9.d))) rfl (rd_sc sc3 (On.now hb1344) rfl)) rfl ?_
                              refine s_y (y_leq rfl rfl) rfl ?_
                              refine s_nil (hK1342 _ _ (genC [(0, (Vi max)), (1, (.slice (some ⟨ab, ao, none⟩) n c)), (5, (Vp g.tb 0)), (7, (.map (some w38.heap.size))), (8, (Vi (((i : Nat) : Int)))), (9, (Vp w79.heap.size 0)), (215, (Vp w1102.heap.size 0)), (224, (.bool (decide ((p1305.2.due : Int) ≤ x9.d))))] ⟨g1334, g1335, g1336, g1337, g1338, g1339, g1341, rfl, trivial⟩ ?_))
                              clear hK1342; rintro E ⟨g1345, g1346, g1347, g1348, g1349, g1350, g1351, g1352, -⟩
                              refine cond_d g1352 (fun c1353 => ?_) (fun c1353 => ?_)
                              · omega
                              · have hle9 := len_erase hp1306
                                have hf1354 := ((hit1303.kp hk1327 id id).kp hk1331 (Nat.ne_of_lt (nt (hit1303.ltr) (Nat.le_refl _))) (Nat.ne_of_lt (nt (hit1303.ltb) (Nat.le_refl _))))
                                have kc1355 : Kp (· = w1102.heap.size) w1251 w1269 := (Kp.trans (Kp.refl _ _) hk1270 (fun _ _ e => e))
                                have kc1356 : Kp (· = w1102.heap.size) w1251 w1301 := (Kp.trans kc1355 hk1302 (fun _ _ e => e))
                                have kc1357 : Kp (· = w1102.heap.size) w1251 w1325 := (Kp.then0 kc1356 hk1327)
                                have kc1358 : Kp (· = w1102.heap.size) w1251 w1329 := (Kp.fresh kc1357 hk1331 fun _ e => nl (nl (nl hk1270.size hk1302.size) (Nat.le_refl _)) (Nat.le_of_eq e.symm))
                                exact skip (hK1271 (left.eraseIdx i1304) _ _ ⟨⟨g1345, g1346, g1347, g1348, g1349, g1350, g1351, trivial⟩, kc1358, (show IterAt (fun n : Int => .int .i64 n) sv inI w1329 w1102.heap.size w38.heap.size mj (left.eraseIdx i1304) none from (IterAt.forget hf1354)), (show ∀ p ∈ (left.eraseIdx i1304), x9.d < p.2.due from (fun q hq => hal8 q (List.mem_of_mem_eraseIdx hq)))⟩ (by show (left.eraseIdx i1304).length < left.length; omega))
                      · have kc1359 : Kp (fun k => w.heap.size ≤ k) w79 w105 := (Kp.then0 (Kp.refl _ _) hk107)
                        have kc1360 : Kp (fun k => w.heap.size ≤ k) w79 w109 := (Kp.trans kc1359 hk111 fun _ _ e => (fun e => nl (nl hz113 (Nat.le_refl _)) (Nat.le_of_eq e.symm)) e)
                        have hni1361 : w79.heap.size ∉ sfp g s := (fun e => Nat.lt_irrefl _ (nt (STab.lt hi83 _ e) (nl (Nat.le_refl _) (Nat.le_refl _))))
                        have hf1362 := (STab.kp (STab.k0 hi83 hk107) hk111 (fun b hb => (fun e => hni1361 (e ▸ hb))) (Nat.ne_of_lt (nt (nt (hT.lt) hz113) (Nat.le_refl _))))
                        have hf1363 := ((hi84.kp hk107 id).kp hk111 (Nat.ne_of_lt (nt (hi84.lt) (Nat.le_refl _))))
                        exact skip (hK121 _ _ ⟨⟨g896, g897, g898, g899, g900, trivial⟩, kc1360, _, _, _, (hf1362.mono (by omega)), hf1363, hpm9, hi86⟩)
          · rintro E w1369 ⟨⟨g1364, g1365, g1366, g1367, g1368, -⟩, hk1370, a2, s2, ml2, ht2, hmm2, hpm2, hni2⟩
            have ka1371 := (Kp.fresh ka87 hk1370 fun _ e => nl (Nat.le_refl _) e)
            have hml2 : ml2.length = a2.L.length := by rw [hpm2.length_eq, pairsM, List.length_map]
            have hlm2 := (STab.wf ht2).len; have hsm2 := STab.smallL ht2
            refine seq fun K1372 hK1372 => ?_
            refine reg ?_
            refine s_y (y_move (v := (Vp g.tb 0)) g1366) rfl ?_
            refine s_e (e_call ca37 (args := [(Vp g.tb 0)]) rfl (all_sx ht2)) rfl ?_
            rintro _ w1373 ⟨⟨ys9, hyp9, hys9, ⟨hz1374, rfl⟩ | ⟨rb1375, cap1376, rfl, hC1377, hf1378⟩⟩, hk1379⟩
            · have hyl9 := hyp9.length_eq
              have hy09 : ys9.length = 0 := by rw [hz1374]; rfl
              have ka1380 := (Kp.then0 ka1371 hk1379)
              refine s_y (y_assign (v := (.slice none 0 0)) rfl) rfl ?_
              refine s_nil (hK1372 _ _ (genC [(0, (Vi max)), (1, (.slice (some ⟨ab, ao, none⟩) n c)), (5, (Vp g.tb 0)), (7, (.map (some w38.heap.size))), (8, (Vi (((i : Nat) : Int)))), (19, (.slice none 0 0))] ⟨g1364, g1365, g1366, g1367, g1368, rfl, trivial⟩ ?_))
              clear hK1372; rintro E ⟨g1381, g1382, g1383, g1384, g1385, g1386, -⟩
              refine seq fun K1387 hK1387 => ?_
              refine seq fun K1388 hK1388 => ?_
              refine reg ?_
              refine s_y (y_move (v := (.slice none 0 0)) g1386) rfl ?_
              refine s_y (y_lenS so63 rfl) rfl ?_
              refine s_y (y_move (v := (.map (some w38.heap.size))) g1384) rfl ?_
              have hf1389 := (hmm2.kp hk1379 id)
              refine s_y (y_lenMap Tryd.underlying73 (MapOn.now hf1389) rfl) rfl ?_
              refine s_y (y_neq rfl rfl) rfl ?_
              refine s_y (y_move (v := (.bool (decide ((((0 : Nat) : Int) : Int) ≠ ((ml2.length : Nat) : Int))))) rfl) rfl ?_
              by_cases c1390 : (((0 : Nat) : Int) : Int) ≠ ((ml2.length : Nat) : Int)
              · omega
              · refine s_gy (.yes rfl (congrArg Value.bool (decide_eq_false c1390))) (y_move (v := (.slice none 0 0)) g1386) rfl ?_
                refine s_gy (.yes rfl (congrArg Value.bool (decide_eq_false c1390))) (y_lenS so63 rfl) rfl ?_
                refine s_gy (.yes rfl (congrArg Value.bool (decide_eq_false c1390))) (y_move (v := (Vi max)) g1381) rfl ?_
                refine s_gy (.yes rfl (congrArg Value.bool (decide_eq_false c1390))) (y_gtr rfl rfl) rfl ?_
                refine s_y (y_pick_f (congrArg Value.bool (decide_eq_false c1390)) (v := (.bool (decide ((max : Int) < ((0 : Nat) : Int))))) rfl) rfl ?_
                refine s_nil (hK1388 _ _ (genC [(0, (Vi max)), (1, (.slice (some ⟨ab, ao, none⟩) n c)), (5, (Vp g.tb 0)), (7, (.map (some w38.heap.size))), (8, (Vi (((i : Nat) : Int)))), (19, (.slice none 0 0)), (237, (.bool (decide ((max : Int) < ((0 : Nat) : Int)))))] ⟨g1381, g1382, g1383, g1384, g1385, g1386, rfl, trivial⟩ ?_))
                clear hK1388; rintro E ⟨g1391, g1392, g1393, g1394, g1395, g1396, g1397, -⟩
                refine cond_d g1397 (fun c1398 => ?_) (fun c1398 => ?_)
                · omega
                · refine skip (hK1387 _ _ (genC [(0, (Vi max)), (1, (.slice (some ⟨ab, ao, none⟩) n c)), (5, (Vp g.tb 0)), (7, (.map (some w38.heap.size))), (8, (Vi (((i : Nat) : Int)))), (19, (.slice none 0 0))] ⟨g1391, g1392, g1393, g1394, g1395, g1396, trivial⟩ ?_))
                  clear hK1387; rintro E ⟨g1399, g1400, g1401, g1402, g1403, g1404, -⟩
                  refine seq fun K1405 hK1405 => ?_
                  refine reg ?_
                  refine s_y (y_assign (v := (Vi 0)) rfl) rfl ?_
                  refine s_nil (hK1405 _ _ (genC [(0, (Vi max)), (1, (.slice (some ⟨ab, ao, none⟩) n c)), (5, (Vp g.tb 0)), (7, (.map (some w38.heap.size))), (8, (Vi (((i : Nat) : Int)))), (19, (.slice none 0 0)), (20, (Vi 0))] ⟨g1399, g1400, g1401, g1402, g1403, g1404, rfl, trivial⟩ ?_))
                  clear hK1405; rintro E ⟨g1406, g1407, g1408, g1409, g1410, g1411, g1412, -⟩
                  refine block ?_
                  refine loopG (X := Nat) (fun q_ E w_ => Has E [(0, (Vi max)), (1, (.slice (some ⟨ab, ao, none⟩) n c)), (5, (Vp g.tb 0)), (7, (.map (some w38.heap.size))), (8, (Vi (((i : Nat) : Int)))), (19, (.slice none 0 0)), (20, (Vi (((q_ : Nat) : Int))))] ∧ Kp (fun _ => False) w1373 w_ ∧ (q_ = 0)) (fun q_ => q_) 0 ⟨⟨g1406, g1407, g1408, g1409, g1410, g1411, g1412, trivial⟩, Kp.refl _ _, (show 0 = 0 from rfl)⟩ ?_
                  rintro k E w1420 ⟨⟨g1413, g1414, g1415, g1416, g1417, g1418, g1419, -⟩, hk1421, hi1423⟩ K1422 hK1422
                  replace hi1423 : k = 0 := hi1423
                  have ka1424 := (Kp.then0 ka1380 hk1421)
                  refine seq fun K1425 hK1425 => ?_
                  refine seq fun K1426 hK1426 => ?_
                  refine reg ?_
                  refine s_y (y_move (v := (Vi (((k : Nat) : Int)))) g1419) rfl ?_
                  refine s_y (y_move (v := (.slice none 0 0)) g1418) rfl ?_
                  refine s_y (y_lenS so63 rfl) rfl ?_
                  refine s_y (y_lss rfl rfl) rfl ?_
                  refine s_nil (hK1426 _ _ (genC [(0, (Vi max)), (1, (.slice (some ⟨ab, ao, none⟩) n c)), (5, (Vp g.tb 0)), (7, (.map (some w38.heap.size))), (8, (Vi (((i : Nat) : Int)))), (19, (.slice none 0 0)), (20, (Vi (((k : Nat) : Int)))), (241, (.bool (decide ((((k : Nat) : Int) : Int) < ((0 : Nat) : Int)))))] ⟨g1413, g1414, g1415, g1416, g1417, g1418, g1419, rfl, trivial⟩ ?_))
                  clear hK1426; rintro E ⟨g1427, g1428, g1429, g1430, g1431, g1432, g1433, g1434, -⟩
                  refine cond_d g1434 (fun c1435 => ?_) (fun c1435 => ?_)
                  · omega
                  · refine exit (hK102 _ _ (genC [(0, (Vi max)), (1, (.slice (some ⟨ab, ao, none⟩) n c)), (5, (Vp g.tb 0)), (7, (.map (some w38.heap.size))), (8, (Vi (((i : Nat) : Int))))] ⟨g1427, g1428, g1429, g1430, g1431, trivial⟩ ?_))
                    clear hK102; rintro E ⟨g1436, g1437, g1438, g1439, g1440, -⟩
                    refine reg ?_
                    refine s_y (y_move (v := (Vi (((i : Nat) : Int)))) g1440) rfl ?_
                    refine s_y (y_add rfl rfl (c := ((i : Nat) : Int) + 1) (by omega) rfl) rfl ?_
                    refine s_y (y_assign (v := (Vi (((i : Nat) : Int) + 1))) rfl) rfl ?_
                    have hf1441 := (STab.k0 (STab.k0 ht2 hk1379) hk1421)
                    have hf1442 := (hf1389.kp hk1421 id)
                    have kc1443 : Kp (fun k => w.heap.size ≤ k) w57 w79 := (Kp.trans (Kp.refl _ _) hk80 fun _ _ e => e)
                    have kc1444 : Kp (fun k => w.heap.size ≤ k) w57 w1369 := (Kp.trans kc1443 hk1370 fun _ _ e => e)
                    have kc1445 : Kp (fun k => w.heap.size ≤ k) w57 w1373 := (Kp.then0 kc1444 hk1379)
                    have kc1446 : Kp (fun k => w.heap.size ≤ k) w57 w1420 := (Kp.then0 kc1445 hk1421)
                    exact s_nil (hK81 ((i + 1), a2, s2, ml2) _ _ ⟨⟨g1436, g1437, g1438, g1439, rfl, trivial⟩, kc1446, (show (i + 1) ≤ acts.length from (by omega)), (show STab max g (((i + 1) : Nat) : Int) w.heap.size a2 s2 w1420 from (STab.mono hf1441 (by omega))), (show SMap w1420 w38.heap.size ml2 from hf1442), (show (ml2 : List (Int × Session)).Perm (pairsM (a2).L) from hpm2), (show w38.heap.size ∉ sfp g s2 from hni2)⟩ (by show (acts.length - (i + 1)) < (acts.length - i); omega))
            · have hyl9 := hyp9.length_eq
              have ka1447 := (Kp.then0 ka1371 hk1379)
              refine s_y (y_assign (v := (.slice (some ⟨rb1375, 0, none⟩) ys9.length cap1376)) rfl) rfl ?_
              refine s_nil (hK1372 _ _ (genC [(0, (Vi max)), (1, (.slice (some ⟨ab, ao, none⟩) n c)), (5, (Vp g.tb 0)), (7, (.map (some w38.heap.size))), (8, (Vi (((i : Nat) : Int)))), (19, (.slice (some ⟨rb1375, 0, none⟩) ys9.length cap1376))] ⟨g1364, g1365, g1366, g1367, g1368, rfl, trivial⟩ ?_))
              clear hK1372; rintro E ⟨g1448, g1449, g1450, g1451, g1452, g1453, -⟩
              refine seq fun K1454 hK1454 => ?_
              refine seq fun K1455 hK1455 => ?_
              refine reg ?_
              refine s_y (y_move (v := (.slice (some ⟨rb1375, 0, none⟩) ys9.length cap1376)) g1453) rfl ?_
              refine s_y (y_lenS so63 rfl) rfl ?_
              refine s_y (y_move (v := (.map (some w38.heap.size))) g1451) rfl ?_
              have hf1456 := (hmm2.kp hk1379 id)
              refine s_y (y_lenMap Tryd.underlying73 (MapOn.now hf1456) rfl) rfl ?_
              refine s_y (y_neq rfl rfl) rfl ?_
              refine s_y (y_move (v := (.bool (decide ((((ys9.length : Nat) : Int) : Int) ≠ ((ml2.length : Nat) : Int))))) rfl) rfl ?_
              by_cases c1457 : (((ys9.length : Nat) : Int) : Int) ≠ ((ml2.length : Nat) : Int)
              · omega
              · refine s_gy (.yes rfl (congrArg Value.bool (decide_eq_false c1457))) (y_move (v := (.slice (some ⟨rb1375, 0, none⟩) ys9.length cap1376)) g1453) rfl ?_
                refine s_gy (.yes rfl (congrArg Value.bool (decide_eq_false c1457))) (y_lenS so63 rfl) rfl ?_
                refine s_gy (.yes rfl (congrArg Value.bool (decide_eq_false c1457))) (y_move (v := (Vi max)) g1448) rfl ?_
                refine s_gy (.yes rfl (congrArg Value.bool (decide_eq_false c1457))) (y_gtr rfl rfl) rfl ?_
                refine s_y (y_pick_f (congrArg Value.bool (decide_eq_false c1457)) (v := (.bool (decide ((max : Int) < ((ys9.length : Nat) : Int))))) rfl) rfl ?_
                refine s_nil (hK1455 _ _ (genC [(0, (Vi max)), (1, (.slice (some ⟨ab, ao, none⟩) n c)), (5, (Vp g.tb 0)), (7, (.map (some w38.heap.size))), (8, (Vi (((i : Nat) : Int)))), (19, (.slice (some ⟨rb1375, 0, none⟩) ys9.length cap1376)), (237, (.bool (decide ((max : Int) < ((ys9.length : Nat) : Int)))))] ⟨g1448, g1449, g1450, g1451, g1452, g1453, rfl, trivial⟩ ?_))
                clear hK1455; rintro E ⟨g1458, g1459, g1460, g1461, g1462, g1463, g1464, -⟩
                refine cond_d g1464 (fun c1465 => ?_) (fun c1465 => ?_)
                · omega
                · refine skip (hK1454 _ _ (genC [(0, (Vi max)), (1, (.slice (some ⟨ab, ao, none⟩) n c)), (5, (Vp g.tb 0)), (7, (.map (some w38.heap.size))), (8, (Vi (((i : Nat) : Int)))), (19, (.slice (some ⟨rb1375, 0, none⟩) ys9.length cap1376))] ⟨g1458, g1459, g1460, g1461, g1462, g1463, trivial⟩ ?_))
                  clear hK1454; rintro E ⟨g1466, g1467, g1468, g1469, g1470, g1471, -⟩
                  refine seq fun K1472 hK1472 => ?_
                  refine reg ?_
                  refine s_y (y_assign (v := (Vi 0)) rfl) rfl ?_
                  refine s_nil (hK1472 _ _ (genC [(0, (Vi max)), (1, (.slice (some ⟨ab, ao, none⟩) n c)), (5, (Vp g.tb 0)), (7, (.map (some w38.heap.size))), (8, (Vi (((i : Nat) : Int)))), (19, (.slice (some ⟨rb1375, 0, none⟩) ys9.length cap1376)), (20, (Vi 0))] ⟨g1466, g1467, g1468, g1469, g1470, g1471, rfl, trivial⟩ ?_))
                  clear hK1472; rintro E ⟨g1473, g1474, g1475, g1476, g1477, g1478, g1479, -⟩
                  refine block ?_
                  refine loopG (X := Nat) (fun q_ E w_ => Has E [(0, (Vi max)), (1, (.slice (some ⟨ab, ao, none⟩) n c)), (5, (Vp g.tb 0)), (7, (.map (some w38.heap.size))), (8, (Vi (((i : Nat) : Int)))), (19, (.slice (some ⟨rb1375, 0, none⟩) ys9.length cap1376)), (20, (Vi (((q_ : Nat) : Int))))] ∧ Kp (fun _ => False) w1373 w_ ∧ (q_ ≤ ys9.length)) (fun q_ => (ys9.length - q_)) 0 ⟨⟨g1473, g1474, g1475, g1476, g1477, g1478, g1479, trivial⟩, Kp.refl _ _, (show 0 ≤ ys9.length from (Nat.zero_le _))⟩ ?_
                  rintro k E w1487 ⟨⟨g1480, g1481, g1482, g1483, g1484, g1485, g1486, -⟩, hk1488, hi1490⟩ K1489 hK1489
                  replace hi1490 : k ≤ ys9.length := hi1490
                  have ka1491 := (Kp.then0 ka1447 hk1488)
                  have hk9 := hi1490
                  refine seq fun K1492 hK1492 => ?_
                  refine seq fun K1493 hK1493 => ?_
                  refine reg ?_
                  refine s_y (y_move (v := (Vi (((k : Nat) : Int)))) g1486) rfl ?_
                  refine s_y (y_move (v := (.slice (some ⟨rb1375, 0, none⟩) ys9.length cap1376)) g1485) rfl ?_
                  refine s_y (y_lenS so63 rfl) rfl ?_
                  refine s_y (y_lss rfl rfl) rfl ?_
                  refine s_nil (hK1493 _ _ (genC [(0, (Vi max)), (1, (.slice (some ⟨ab, ao, none⟩) n c)), (5, (Vp g.tb 0)), (7, (.map (some w38.heap.size))), (8, (Vi (((i : Nat) : Int)))), (19, (.slice (some ⟨rb1375, 0, none⟩) ys9.length cap1376)), (20, (Vi (((k : Nat) : Int)))), (241, (.bool (decide ((((k : Nat) : Int) : Int) < ((ys9.length : Nat) : Int)))))] ⟨g1480, g1481, g1482, g1483, g1484, g1485, g1486, rfl, trivial⟩ ?_))
                  clear hK1493; rintro E ⟨g1494, g1495, g1496, g1497, g1498, g1499, g1500, g1501, -⟩
                  refine cond_d g1501 (fun c1502 => ?_) (fun c1502 => ?_)
                  · obtain ⟨z9, hz9⟩ : ∃ x, ys9[k]? = some x := ⟨_, List.getElem?_eq_getElem (by omega)⟩
                    have hzm9 : z9 ∈ a2.L := hyp9.mem_iff.1 (List.mem_of_getElem? hz9); have hag9 := mget_some hmm2 hpm2 hzm9; have hgz9 : inI z9.id := hmm2.goods _ (hpm2.mem_iff.2 (List.mem_map.2 ⟨z9, hzm9, rfl⟩)); unfold inI at hgz9
                    have hpv9 : 0 < k → ∃ y, ys9[k - 1]? = some y ∧ y.id < z9.id := fun h9 => ⟨_, List.getElem?_eq_getElem (by omega), ids_lt hyp9 hys9 (STab.wf ht2).nd (j := k - 1) (List.getElem?_eq_getElem (by omega)) (by rw [Nat.sub_add_cancel h9]; exact hz9)⟩
                    refine skip (hK1492 _ _ (genC [(0, (Vi max)), (1, (.slice (some ⟨ab, ao, none⟩) n c)), (5, (Vp g.tb 0)), (7, (.map (some w38.heap.size))), (8, (Vi (((i : Nat) : Int)))), (19, (.slice (some ⟨rb1375, 0, none⟩) ys9.length cap1376)), (20, (Vi (((k : Nat) : Int))))] ⟨g1494, g1495, g1496, g1497, g1498, g1499, g1500, trivial⟩ ?_))
                    clear hK1492; rintro E ⟨g1503, g1504, g1505, g1506, g1507, g1508, g1509, -⟩
                    refine seq fun K1510 hK1510 => ?_
                    refine block ?_
                    refine seq fun K1511 hK1511 => ?_
                    refine regD (fun _ => False) (.take 0 (.take 1 (.take 2 (.take 3 (.take 4 (.take 5 (.take 6 (.take 7 (.take 8 (.take 9 (.take 10 (.two 11 (.take 12 (.take 13 (.take 14 (.one 15 (.one 16 (.take 17 .done)))))) 15 (.one 11 (.take 12 (.take 13 (.take 14 (.one 16 (.take 17 .done)))))))))))))))))) mixed (by kernel_rfl) fun w1512 hh1513 hk1514 => ?_
                    have ka1515 := (Kp.then0 ka1491 hk1514)
                    refine o_y rfl (y_move (v := (Vp g.tb 0)) g1505) ?_
                    refine o_y rfl (y_move (v := (.slice (some ⟨rb1375, 0, none⟩) ys9.length cap1376)) g1508) ?_
                    refine o_y rfl (y_move (v := (Vi (((k : Nat) : Int)))) g1509) ?_
                    refine o_y rfl (y_idx so63 sz59 rfl (i := k) rfl (by omega)) ?_
                    refine o_y rfl (y_fld fo59_1 rfl) ?_
                    refine o_y rfl (y_load (v := (Vi (z9.binding))) rfl (rd_ef sc3 (EltsOn.kp (OwnC.elts ((hC1377.kp hk1488 id).kp hk1514 id)) id) hz9 rfl)) ?_
                    refine o_y rfl (y_move (v := (.slice (some ⟨rb1375, 0, none⟩) ys9.length cap1376)) g1508) ?_
                    refine o_y rfl (y_move (v := (Vi (((k : Nat) : Int)))) g1509) ?_
                    refine o_y rfl (y_idx so63 sz59 rfl (i := k) rfl (by omega)) ?_
                    refine o_y rfl (y_fld fo59_2 rfl) ?_
                    refine o_y rfl (y_load (v := (.agg #[u8 z9.peer.addr.a, u8 z9.peer.addr.b, u8 z9.peer.addr.c, u8 z9.peer.addr.d, .int .i64 (z9.peer.port)])) rfl (rd_eg ag34 (EltsOn.kp (OwnC.elts ((hC1377.kp hk1488 id).kp hk1514 id)) id) hz9 (vs := z9.peer.cs) rfl rfl)) ?_
                    refine o_two ?_ ?_
                    · have hf1516 := (STab.k0 (STab.k0 (STab.k0 ht2 hk1379) hk1488) hk1514)
                      refine c_e rfl (e_call ca35 (args := [(Vp g.tb 0), (Vi (z9.binding)), (.agg #[u8 z9.peer.addr.a, u8 z9.peer.addr.b, u8 z9.peer.addr.c, u8 z9.peer.addr.d, .int .i64 (z9.peer.port)])]) rfl (find_sy hf1516 hzm9)) ?_
                      rintro _ w1517 ⟨rfl, hk1518⟩
                      have ka1519 := (Kp.then0 ka1515 hk1518)
                      have ks1520 : Kp (fun _ => False) w1512 w1517 := (Kp.then0 (Kp.refl _ _) hk1518)
                      refine ⟨ks1520, ?_⟩
                      refine o_y rfl (y_move (v := (.tuple #[(sv z9), Vt])) rfl) ?_
                      refine o_y rfl (y_ext rfl (v := (sv z9)) rfl) ?_
                      refine o_y rfl (y_ext rfl (v := Vt) rfl) ?_
                      refine o_one ?_
                      refine c_e rfl (e_alloc ze59) ?_
                      rintro _ w1521 ⟨rfl, hb1522, hk1523⟩
                      have ka1524 := (Kp.then0 ka1519 hk1523)
                      have ks1525 := (Kp.then0 ks1520 hk1523)
                      refine ⟨ks1525, ?_⟩
                      refine o_one ?_
                      refine c_e0 rfl (e_storeV (cs' := z9.cs.toArray) z9.cs rfl (v := (sv z9)) rfl rfl sz59 hb1522 rfl rfl rfl) ?_
                      rintro _ w1526 ⟨hb1527, hk1528⟩
                      have hz1530 := (nl (nl (nl (nl (nl hz113 hk1370.size) hk1379.size) hk1488.size) hk1514.size) hk1518.size)
                      have ka1529 := (Kp.fresh ka1524 hk1528 fun _ e => nl (nl hz1530 (Nat.le_refl _)) (Nat.le_of_eq e.symm))
                      have ks1531 := (Kp.fresh ks1525 hk1528 fun _ e => nl (nl hk1518.size (Nat.le_refl _)) (Nat.le_of_eq e.symm))
                      refine ⟨ks1531, ?_⟩
                      refine o_y rfl (y_assign (v := Vt) rfl) ?_
                      refine o_done (hK1511 _ _ (genC [(0, (Vi max)), (1, (.slice (some ⟨ab, ao, none⟩) n c)), (5, (Vp g.tb 0)), (7, (.map (some w38.heap.size))), (8, (Vi (((i : Nat) : Int)))), (19, (.slice (some ⟨rb1375, 0, none⟩) ys9.length cap1376)), (20, (Vi (((k : Nat) : Int)))), (21, (Vp w1517.heap.size 0)), (22, Vt)] ⟨g1503, g1504, g1505, g1506, g1507, g1508, g1509, rfl, rfl, trivial⟩ ?_))
                      clear hK1511; rintro E ⟨g1532, g1533, g1534, g1535, g1536, g1537, g1538, g1539, g1540, -⟩
                      refine seq fun K1541 hK1541 => ?_
                      refine regD (fun _ => False) (.take 0 (.take 1 (.take 2 (.take 3 (.take 4 (.take 5 (.take 6 (.take 7 (.take 8 (.take 9 (.take 10 (.take 11 (.take 12 (.take 13 (.take 14 (.take 15 (.take 16 (.take 17 (.take 18 (.take 19 (.take 20 (.take 21 (.take 22 (.take 23 (.take 24 (.take 25 (.take 26 (.take 27 (.take 28 (.take 29 (.take 30 (.take 31 (.take 32 (.take 33 (.take 34 (.take 35 (.take 36 (.take 37 (.take 38 (.take 39 (.take 40 (.take 41 .done)))))))))))))))))))))))))))))))))))))))))) mixed (by kernel_rfl) fun w1542 hh1543 hk1544 => ?_
                      have ka1545 := (Kp.then0 ka1529 hk1544)
                      refine o_y rfl (y_move (v := (.slice (some ⟨rb1375, 0, none⟩) ys9.length cap1376)) g1537) ?_
                      refine o_y rfl (y_move (v := (Vi (((k : Nat) : Int)))) g1538) ?_
                      refine o_y rfl (y_idx so63 sz59 rfl (i := k) rfl (by omega)) ?_
                      have hz1546 := (nl (nl hk1488.size hk1514.size) hk1518.size)
                      refine o_y rfl (y_load (v := (.agg #[.int .i64 (z9.id), .int .i64 (z9.binding), u8 z9.peer.addr.a, u8 z9.peer.addr.b, u8 z9.peer.addr.c, u8 z9.peer.addr.d, .int .i64 (z9.peer.port), .int .i64 (z9.state), .int .i64 (z9.due)])) rfl (rd_el ag59 (EltsOn.kp (OwnC.elts ((((((hC1377.kp hk1488 id).kp hk1514 id).kp hk1518 id).kp hk1523 id).kp hk1528 (Nat.ne_of_lt (nt (nt (hC1377.lt) hz1546) (Nat.le_refl _)))).kp hk1544 id)) id) hz9 (vs := z9.cs) rfl)) ?_
                      refine o_y rfl (y_move (v := (.map (some w38.heap.size))) g1535) ?_
                      refine o_y rfl (y_move (v := (.slice (some ⟨rb1375, 0, none⟩) ys9.length cap1376)) g1537) ?_
                      refine o_y rfl (y_move (v := (Vi (((k : Nat) : Int)))) g1538) ?_
                      refine o_y rfl (y_idx so63 sz59 rfl (i := k) rfl (by omega)) ?_
                      refine o_y rfl (y_fld fo59_0 rfl) ?_
                      refine o_y rfl (y_load (v := (Vi (z9.id))) rfl (rd_ef sc3 (EltsOn.kp (OwnC.elts ((((((hC1377.kp hk1488 id).kp hk1514 id).kp hk1518 id).kp hk1523 id).kp hk1528 (Nat.ne_of_lt (nt (nt (hC1377.lt) hz1546) (Nat.le_refl _)))).kp hk1544 id)) id) hz9 rfl)) ?_
                      refine o_y rfl (y_lookup_some kf3 Tryd.underlying73 ze59 (MapOn.kp ((((((hf1456.kp hk1488 id).kp hk1514 id).kp hk1518 id).kp hk1523 id).kp hk1528 (Nat.ne_of_lt (nt (nt (hf1456.lt) hz1546) (Nat.le_refl _)))).kp hk1544 id) id) rfl rfl (show inI z9.id from inI_of (by omega) (by omega)) hag9) ?_
                      refine o_y rfl (y_neqT (eq59 9996) eg59 (x := z9) (y := z9) rfl rfl ⟨_, rfl⟩ ⟨_, rfl⟩) ?_
                      refine o_y rfl (y_move (v := (.bool (decide (z9 ≠ z9)))) rfl) ?_
                      by_cases c1547 : z9 ≠ z9
                      · exact absurd rfl c1547
                      · refine o_gy rfl (.yes rfl (congrArg Value.bool (decide_eq_false c1547))) (y_move (v := Vt) g1540) ?_
                        refine o_gy rfl (.yes rfl (congrArg Value.bool (decide_eq_false c1547))) (y_not rfl) ?_
                        refine o_y rfl (y_pick_f (congrArg Value.bool (decide_eq_false c1547)) (v := Vf) rfl) ?_
                        refine o_y rfl (y_move (v := Vf) rfl) ?_
                        refine o_gy rfl (.yes rfl rfl) (y_load (v := (sv z9)) g1539 (rd_agg (vs := z9.cs) ag59 (On.kp (hk1544.get0 hb1527) id) (by kernel_rfl) rfl)) ?_
                        refine o_gy rfl (.yes rfl rfl) (y_move (v := (.slice (some ⟨rb1375, 0, none⟩) ys9.length cap1376)) g1537) ?_
                        refine o_gy rfl (.yes rfl rfl) (y_move (v := (Vi (((k : Nat) : Int)))) g1538) ?_
                        refine o_gy rfl (.yes rfl rfl) (y_idx so63 sz59 rfl (i := k) rfl (by omega)) ?_
                        refine o_gy rfl (.yes rfl rfl) (y_load (v := (.agg #[.int .i64 (z9.id), .int .i64 (z9.binding), u8 z9.peer.addr.a, u8 z9.peer.addr.b, u8 z9.peer.addr.c, u8 z9.peer.addr.d, .int .i64 (z9.peer.port), .int .i64 (z9.state), .int .i64 (z9.due)])) rfl (rd_el ag59 (EltsOn.kp (OwnC.elts ((((((hC1377.kp hk1488 id).kp hk1514 id).kp hk1518 id).kp hk1523 id).kp hk1528 (Nat.ne_of_lt (nt (nt (hC1377.lt) hz1546) (Nat.le_refl _)))).kp hk1544 id)) id) hz9 (vs := z9.cs) rfl)) ?_
                        refine o_gy rfl (.yes rfl rfl) (y_neqT (eq59 9996) eg59 (x := z9) (y := z9) rfl rfl ⟨_, rfl⟩ ⟨_, rfl⟩) ?_
                        refine o_y rfl (y_pick_f rfl (v := (.bool (decide (z9 ≠ z9)))) rfl) ?_
                        refine o_y rfl (y_move (v := (.bool (decide (z9 ≠ z9)))) rfl) ?_
                        by_cases c1548 : z9 ≠ z9
                        · exact absurd rfl c1548
                        · refine o_gy rfl (.yes rfl (congrArg Value.bool (decide_eq_false c1548))) (y_move (v := (Vi (((k : Nat) : Int)))) g1538) ?_
                          refine o_gy rfl (.yes rfl (congrArg Value.bool (decide_eq_false c1548))) (y_gtr rfl rfl) ?_
                          refine o_gy rfl (.yes rfl (congrArg Value.bool (decide_eq_false c1548))) (y_move (v := (.bool (decide ((0 : Int) < ((k : Nat) : Int))))) rfl) ?_
                          by_cases c1549 : (0 : Int) < ((k : Nat) : Int)
                          · refine o_gy rfl (.yes rfl (congrArg Value.bool (decide_eq_true c1549))) (y_move (v := (.slice (some ⟨rb1375, 0, none⟩) ys9.length cap1376)) g1537) ?_
                            refine o_gy rfl (.yes rfl (congrArg Value.bool (decide_eq_true c1549))) (y_move (v := (Vi (((k : Nat) : Int)))) g1538) ?_
                            obtain ⟨y9, hy9, hso9⟩ := hpv9 (by omega)
                            refine o_gy rfl (.yes rfl (congrArg Value.bool (decide_eq_true c1549))) (y_sub rfl rfl (c := ((k - 1 : Nat) : Int)) (by omega) (by omega)) ?_
                            refine o_gy rfl (.yes rfl (congrArg Value.bool (decide_eq_true c1549))) (y_idx so63 sz59 rfl (i := (k - 1)) rfl (by omega)) ?_
                            refine o_gy rfl (.yes rfl (congrArg Value.bool (decide_eq_true c1549))) (y_fld fo59_0 rfl) ?_
                            refine o_gy rfl (.yes rfl (congrArg Value.bool (decide_eq_true c1549))) (y_load (v := (Vi (y9.id))) rfl (rd_ef sc3 (EltsOn.kp (OwnC.elts ((((((hC1377.kp hk1488 id).kp hk1514 id).kp hk1518 id).kp hk1523 id).kp hk1528 (Nat.ne_of_lt (nt (nt (hC1377.lt) hz1546) (Nat.le_refl _)))).kp hk1544 id)) id) hy9 rfl)) ?_
                            refine o_gy rfl (.yes rfl (congrArg Value.bool (decide_eq_true c1549))) (y_move (v := (.slice (some ⟨rb1375, 0, none⟩) ys9.length cap1376)) g1537) ?_
                            refine o_gy rfl (.yes rfl (congrArg Value.bool (decide_eq_true c1549))) (y_move (v := (Vi (((k : Nat) : Int)))) g1538) ?_
                            refine o_gy rfl (.yes rfl (congrArg Value.bool (decide_eq_true c1549))) (y_idx so63 sz59 rfl (i := k) rfl (by omega)) ?_
                            refine o_gy rfl (.yes rfl (congrArg Value.bool (decide_eq_true c1549))) (y_fld fo59_0 rfl) ?_
                            refine o_gy rfl (.yes rfl (congrArg Value.bool (decide_eq_true c1549))) (y_load (v := (Vi (z9.id))) rfl (rd_ef sc3 (EltsOn.kp (OwnC.elts ((((((hC1377.kp hk1488 id).kp hk1514 id).kp hk1518 id).kp hk1523 id).kp hk1528 (Nat.ne_of_lt (nt (nt (hC1377.lt) hz1546) (Nat.le_refl _)))).kp hk1544 id)) id) hz9 rfl)) ?_
                            refine o_gy rfl (.yes rfl (congrArg Value.bool (decide_eq_true c1549))) (y_geq rfl rfl) ?_
                            refine o_gy rfl (.yes rfl (congrArg Value.bool (decide_eq_false c1548))) (y_pick_t (congrArg Value.bool (decide_eq_true c1549)) (v := (.bool (decide ((z9.id : Int) ≤ y9.id)))) rfl) ?_
                            refine o_y rfl (y_pick_f (congrArg Value.bool (decide_eq_false c1548)) (v := (.bool (decide ((z9.id : Int) ≤ y9.id)))) rfl) ?_
                            refine o_done (hK1541 _ _ (genC [(0, (Vi max)), (1, (.slice (some ⟨ab, ao, none⟩) n c)), (5, (Vp g.tb 0)), (7, (.map (some w38.heap.size))), (8, (Vi (((i : Nat) : Int)))), (19, (.slice (some ⟨rb1375, 0, none⟩) ys9.length cap1376)), (20, (Vi (((k : Nat) : Int)))), (300, (.bool (decide ((z9.id : Int) ≤ y9.id))))] ⟨g1532, g1533, g1534, g1535, g1536, g1537, g1538, rfl, trivial⟩ ?_))
                            clear hK1541; rintro E ⟨g1550, g1551, g1552, g1553, g1554, g1555, g1556, g1557, -⟩
                            refine cond_d g1557 (fun c1558 => ?_) (fun c1558 => ?_)
                            · omega
                            · refine skip (hK1510 _ _ (genC [(0, (Vi max)), (1, (.slice (some ⟨ab, ao, none⟩) n c)), (5, (Vp g.tb 0)), (7, (.map (some w38.heap.size))), (8, (Vi (((i : Nat) : Int)))), (19, (.slice (some ⟨rb1375, 0, none⟩) ys9.length cap1376)), (20, (Vi (((k : Nat) : Int))))] ⟨g1550, g1551, g1552, g1553, g1554, g1555, g1556, trivial⟩ ?_))
                              clear hK1510; rintro E ⟨g1559, g1560, g1561, g1562, g1563, g1564, g1565, -⟩
                              refine reg ?_
                              refine s_y (y_move (v := (Vi (((k : Nat) : Int)))) g1565) rfl ?_
                              refine s_y (y_add rfl rfl (c := ((k : Nat) : Int) + 1) (by omega) rfl) rfl ?_
                              refine s_y (y_assign (v := (Vi (((k : Nat) : Int) + 1))) rfl) rfl ?_
                              have kc1566 : Kp (fun _ => False) w1373 w1487 := (Kp.then0 (Kp.refl _ _) hk1488)
                              have kc1567 : Kp (fun _ => False) w1373 w1512 := (Kp.then0 kc1566 hk1514)
                              have kc1568 : Kp (fun _ => False) w1373 w1517 := (Kp.then0 kc1567 hk1518)
                              have kc1569 : Kp (fun _ => False) w1373 w1521 := (Kp.then0 kc1568 hk1523)
                              have kc1570 : Kp (fun _ => False) w1373 w1526 := (Kp.fresh kc1569 hk1528 fun _ e => nl (nl hz1546 (Nat.le_refl _)) (Nat.le_of_eq e.symm))
                              have kc1571 : Kp (fun _ => False) w1373 w1542 := (Kp.then0 kc1570 hk1544)
                              exact s_nil (hK1489 (k + 1) _ _ ⟨⟨g1559, g1560, g1561, g1562, g1563, g1564, rfl, trivial⟩, kc1571, (show (k + 1) ≤ ys9.length from (by omega))⟩ (by show (ys9.length - (k + 1)) < (ys9.length - k); omega))
                          · refine o_no rfl (.no rfl (c := false) (congrArg Value.bool (decide_eq_false c1549)) rfl) ?_
                            refine o_no rfl (.no rfl (c := false) (congrArg Value.bool (decide_eq_false c1549)) rfl) ?_
                            refine o_no rfl (.no rfl (c := false) (congrArg Value.bool (decide_eq_false c1549)) rfl) ?_
                            refine o_no rfl (.no rfl (c := false) (congrArg Value.bool (decide_eq_false c1549)) rfl) ?_
                            refine o_no rfl (.no rfl (c := false) (congrArg Value.bool (decide_eq_false c1549)) rfl) ?_
                            refine o_no rfl (.no rfl (c := false) (congrArg Value.bool (decide_eq_false c1549)) rfl) ?_
                            refine o_no rfl (.no rfl (c := false) (congrArg Value.bool (decide_eq_false c1549)) rfl) ?_
                            refine o_no rfl (.no rfl (c := false) (congrArg Value.bool (decide_eq_false c1549)) rfl) ?_
                            refine o_no rfl (.no rfl (c := false) (congrArg Value.bool (decide_eq_false c1549)) rfl) ?_
                            refine o_no rfl (.no rfl (c := false) (congrArg Value.bool (decide_eq_false c1549)) rfl) ?_
                            refine o_no rfl (.no rfl (c := false) (congrArg Value.bool (decide_eq_false c1549)) rfl) ?_
                            refine o_no rfl (.no rfl (c := false) (congrArg Value.bool (decide_eq_false c1549)) rfl) ?_
                            refine o_gy rfl (.yes rfl (congrArg Value.bool (decide_eq_false c1548))) (y_pick_f (congrArg Value.bool (decide_eq_false c1549)) (v := Vf) rfl) ?_
                            refine o_y rfl (y_pick_f (congrArg Value.bool (decide_eq_false c1548)) (v := Vf) rfl) ?_
                            refine o_done (hK1541 _ _ (genC [(0, (Vi max)), (1, (.slice (some ⟨ab, ao, none⟩) n c)), (5, (Vp g.tb 0)), (7, (.map (some w38.heap.size))), (8, (Vi (((i : Nat) : Int)))), (19, (.slice (some ⟨rb1375, 0, none⟩) ys9.length cap1376)), (20, (Vi (((k : Nat) : Int)))), (300, Vf)] ⟨g1532, g1533, g1534, g1535, g1536, g1537, g1538, rfl, trivial⟩ ?_))
                            clear hK1541; rintro E ⟨g1572, g1573, g1574, g1575, g1576, g1577, g1578, g1579, -⟩
                            refine cond_f g1579 ?_
                            refine skip (hK1510 _ _ (genC [(0, (Vi max)), (1, (.slice (some ⟨ab, ao, none⟩) n c)), (5, (Vp g.tb 0)), (7, (.map (some w38.heap.size))), (8, (Vi (((i : Nat) : Int)))), (19, (.slice (some ⟨rb1375, 0, none⟩) ys9.length cap1376)), (20, (Vi (((k : Nat) : Int))))] ⟨g1572, g1573, g1574, g1575, g1576, g1577, g1578, trivial⟩ ?_))
                            clear hK1510; rintro E ⟨g1580, g1581, g1582, g1583, g1584, g1585, g1586, -⟩
                            refine reg ?_
                            refine s_y (y_move (v := (Vi (((k : Nat) : Int)))) g1586) rfl ?_
                            refine s_y (y_add rfl rfl (c := ((k : Nat) : Int) + 1) (by omega) rfl) rfl ?_
                            refine s_y (y_assign (v := (Vi (((k : Nat) : Int) + 1))) rfl) rfl ?_
                            have kc1587 : Kp (fun _ => False) w1373 w1487 := (Kp.then0 (Kp.refl _ _) hk1488)
                            have kc1588 : Kp (fun _ => False) w1373 w1512 := (Kp.then0 kc1587 hk1514)
                            have kc1589 : Kp (fun _ => False) w1373 w1517 := (Kp.then0 kc1588 hk1518)
                            have kc1590 : Kp (fun _ => False) w1373 w1521 := (Kp.then0 kc1589 hk1523)
                            have kc1591 : Kp (fun _ => False) w1373 w1526 := (Kp.fresh kc1590 hk1528 fun _ e => nl (nl hz1546 (Nat.le_refl _)) (Nat.le_of_eq e.symm))
                            have kc1592 : Kp (fun _ => False) w1373 w1542 := (Kp.then0 kc1591 hk1544)
                            exact s_nil (hK1489 (k + 1) _ _ ⟨⟨g1580, g1581, g1582, g1583, g1584, g1585, rfl, trivial⟩, kc1592, (show (k + 1) ≤ ys9.length from (by omega))⟩ (by show (ys9.length - (k + 1)) < (ys9.length - k); omega))
                    · refine c_e rfl (e_alloc ze59) ?_
                      rintro _ w1593 ⟨rfl, hb1594, hk1595⟩
                      have ka1596 := (Kp.then0 ka1515 hk1595)
                      have ks1597 : Kp (fun _ => False) w1512 w1593 := (Kp.then0 (Kp.refl _ _) hk1595)
                      refine ⟨ks1597, ?_⟩
                      refine o_one ?_
                      have hf1598 := (STab.k0 (STab.k0 (STab.k0 (STab.k0 ht2 hk1379) hk1488) hk1514) hk1595)
                      refine c_e rfl (e_call ca35 (args := [(Vp g.tb 0), (Vi (z9.binding)), (.agg #[u8 z9.peer.addr.a, u8 z9.peer.addr.b, u8 z9.peer.addr.c, u8 z9.peer.addr.d, .int .i64 (z9.peer.port)])]) rfl (find_sy hf1598 hzm9)) ?_
                      rintro _ w1599 ⟨rfl, hk1600⟩
                      have ka1601 := (Kp.then0 ka1596 hk1600)
                      have ks1602 := (Kp.then0 ks1597 hk1600)
                      refine ⟨ks1602, ?_⟩
                      refine o_y rfl (y_move (v := (.tuple #[(sv z9), Vt])) rfl) ?_
                      refine o_y rfl (y_ext rfl (v := (sv z9)) rfl) ?_
                      refine o_y rfl (y_ext rfl (v := Vt) rfl) ?_
                      refine o_one ?_
                      have hb1603 := (hk1600.get0 hb1594)
                      refine c_e0 rfl (e_storeV (cs' := z9.cs.toArray) z9.cs rfl (v := (sv z9)) rfl rfl sz59 hb1603 rfl rfl rfl) ?_
                      rintro _ w1604 ⟨hb1605, hk1606⟩
                      have hz1608 := (nl (nl (nl (nl hz113 hk1370.size) hk1379.size) hk1488.size) hk1514.size)
                      have ka1607 := (Kp.fresh ka1601 hk1606 fun _ e => nl (nl hz1608 (Nat.le_refl _)) (Nat.le_of_eq e.symm))
                      have ks1609 := (Kp.fresh ks1602 hk1606 fun _ e => nl (nl (Nat.le_refl _) (Nat.le_refl _)) (Nat.le_of_eq e.symm))
                      refine ⟨ks1609, ?_⟩
                      refine o_y rfl (y_assign (v := Vt) rfl) ?_
                      refine o_done (hK1511 _ _ (genC [(0, (Vi max)), (1, (.slice (some ⟨ab, ao, none⟩) n c)), (5, (Vp g.tb 0)), (7, (.map (some w38.heap.size))), (8, (Vi (((i : Nat) : Int)))), (19, (.slice (some ⟨rb1375, 0, none⟩) ys9.length cap1376)), (20, (Vi (((k : Nat) : Int)))), (21, (Vp w1512.heap.size 0)), (22, Vt)] ⟨g1503, g1504, g1505, g1506, g1507, g1508, g1509, rfl, rfl, trivial⟩ ?_))
                      clear hK1511; rintro E ⟨g1610, g1611, g1612, g1613, g1614, g1615, g1616, g1617, g1618, -⟩
                      refine seq fun K1619 hK1619 => ?_
                      refine regD (fun _ => False) (.take 0 (.take 1 (.take 2 (.take 3 (.take 4 (.take 5 (.take 6 (.take 7 (.take 8 (.take 9 (.take 10 (.take 11 (.take 12 (.take 13 (.take 14 (.take 15 (.take 16 (.take 17 (.take 18 (.take 19 (.take 20 (.take 21 (.take 22 (.take 23 (.take 24 (.take 25 (.take 26 (.take 27 (.take 28 (.take 29 (.take 30 (.take 31 (.take 32 (.take 33 (.take 34 (.take 35 (.take 36 (.take 37 (.take 38 (.take 39 (.take 40 (.take 41 .done)))))))))))))))))))))))))))))))))))))))))) mixed (by kernel_rfl) fun w1620 hh1621 hk1622 => ?_
                      have ka1623 := (Kp.then0 ka1607 hk1622)
                      refine o_y rfl (y_move (v := (.slice (some ⟨rb1375, 0, none⟩) ys9.length cap1376)) g1615) ?_
                      refine o_y rfl (y_move (v := (Vi (((k : Nat) : Int)))) g1616) ?_
                      refine o_y rfl (y_idx so63 sz59 rfl (i := k) rfl (by omega)) ?_
                      refine o_y rfl (y_load (v := (.agg #[.int .i64 (z9.id), .int .i64 (z9.binding), u8 z9.peer.addr.a, u8 z9.peer.addr.b, u8 z9.peer.addr.c, u8 z9.peer.addr.d, .int .i64 (z9.peer.port), .int .i64 (z9.state), .int .i64 (z9.due)])) rfl (rd_el ag59 (EltsOn.kp (OwnC.elts ((((((hC1377.kp hk1488 id).kp hk1514 id).kp hk1595 id).kp hk1600 id).kp hk1606 (Nat.ne_of_lt (nt (nt (hC1377.lt) (nl hk1488.size hk1514.size)) (Nat.le_refl _)))).kp hk1622 id)) id) hz9 (vs := z9.cs) rfl)) ?_
                      refine o_y rfl (y_move (v := (.map (some w38.heap.size))) g1613) ?_
                      refine o_y rfl (y_move (v := (.slice (some ⟨rb1375, 0, none⟩) ys9.length cap1376)) g1615) ?_
                      refine o_y rfl (y_move (v := (Vi (((k : Nat) : Int)))) g1616) ?_
                      refine o_y rfl (y_idx so63 sz59 rfl (i := k) rfl (by omega)) ?_
                      refine o_y rfl (y_fld fo59_0 rfl) ?_
                      refine o_y rfl (y_load (v := (Vi (z9.id))) rfl (rd_ef sc3 (EltsOn.kp (OwnC.elts ((((((hC1377.kp hk1488 id).kp hk1514 id).kp hk1595 id).kp hk1600 id).kp hk1606 (Nat.ne_of_lt (nt (nt (hC1377.lt) (nl hk1488.size hk1514.size)) (Nat.le_refl _)))).kp hk1622 id)) id) hz9 rfl)) ?_
                      refine o_y rfl (y_lookup_some kf3 Tryd.underlying73 ze59 (MapOn.kp ((((((hf1456.kp hk1488 id).kp hk1514 id).kp hk1595 id).kp hk1600 id).kp hk1606 (Nat.ne_of_lt (nt (nt (hf1456.lt) (nl hk1488.size hk1514.size)) (Nat.le_refl _)))).kp hk1622 id) id) rfl rfl (show inI z9.id from inI_of (by omega) (by omega)) hag9) ?_
                      refine o_y rfl (y_neqT (eq59 9996) eg59 (x := z9) (y := z9) rfl rfl ⟨_, rfl⟩ ⟨_, rfl⟩) ?_
                      refine o_y rfl (y_move (v := (.bool (decide (z9 ≠ z9)))) rfl) ?_
                      by_cases c1624 : z9 ≠ z9
                      · exact absurd rfl c1624
                      · refine o_gy rfl (.yes rfl (congrArg Value.bool (decide_eq_false c1624))) (y_move (v := Vt) g1618) ?_
                        refine o_gy rfl (.yes rfl (congrArg Value.bool (decide_eq_false c1624))) (y_not rfl) ?_
                        refine o_y rfl (y_pick_f (congrArg Value.bool (decide_eq_false c1624)) (v := Vf) rfl) ?_
                        refine o_y rfl (y_move (v := Vf) rfl) ?_
                        refine o_gy rfl (.yes rfl rfl) (y_load (v := (sv z9)) g1617 (rd_agg (vs := z9.cs) ag59 (On.kp (hk1622.get0 hb1605) id) (by kernel_rfl) rfl)) ?_
                        refine o_gy rfl (.yes rfl rfl) (y_move (v := (.slice (some ⟨rb1375, 0, none⟩) ys9.length cap1376)) g1615) ?_
                        refine o_gy rfl (.yes rfl rfl) (y_move (v := (Vi (((k : Nat) : Int)))) g1616) ?_
                        refine o_gy rfl (.yes rfl rfl) (y_idx so63 sz59 rfl (i := k) rfl (by omega)) ?_
                        refine o_gy rfl (.yes rfl rfl) (y_load (v := (.agg #[.int .i64 (z9.id), .int .i64 (z9.binding), u8 z9.peer.addr.a, u8 z9.peer.addr.b, u8 z9.peer.addr.c, u8 z9.peer.addr.d, .int .i64 (z9.peer.port), .int .i64 (z9.state), .int .i64 (z9.due)])) rfl (rd_el ag59 (EltsOn.kp (OwnC.elts ((((((hC1377.kp hk1488 id).kp hk1514 id).kp hk1595 id).kp hk1600 id).kp hk1606 (Nat.ne_of_lt (nt (nt (hC1377.lt) (nl hk1488.size hk1514.size)) (Nat.le_refl _)))).kp hk1622 id)) id) hz9 (vs := z9.cs) rfl)) ?_
                        refine o_gy rfl (.yes rfl rfl) (y_neqT (eq59 9996) eg59 (x := z9) (y := z9) rfl rfl ⟨_, rfl⟩ ⟨_, rfl⟩) ?_
                        refine o_y rfl (y_pick_f rfl (v := (.bool (decide (z9 ≠ z9)))) rfl) ?_
                        refine o_y rfl (y_move (v := (.bool (decide (z9 ≠ z9)))) rfl) ?_
                        by_cases c1625 : z9 ≠ z9
                        · exact absurd rfl c1625
                        · refine o_gy rfl (.yes rfl (congrArg Value.bool (decide_eq_false c1625))) (y_move (v := (Vi (((k : Nat) : Int)))) g1616) ?_
                          refine o_gy rfl (.yes rfl (congrArg Value.bool (decide_eq_false c1625))) (y_gtr rfl rfl) ?_
                          refine o_gy rfl (.yes rfl (congrArg Value.bool (decide_eq_false c1625))) (y_move (v := (.bool (decide ((0 : Int) < ((k : Nat) : Int))))) rfl) ?_
                          by_cases c1626 : (0 : Int) < ((k : Nat) : Int)
                          · refine o_gy rfl (.yes rfl (congrArg Value.bool (decide_eq_true c1626))) (y_move (v := (.slice (some ⟨rb1375, 0, none⟩) ys9.length cap1376)) g1615) ?_
                            refine o_gy rfl (.yes rfl (congrArg Value.bool (decide_eq_true c1626))) (y_move (v := (Vi (((k : Nat) : Int)))) g1616) ?_
                            obtain ⟨y9, hy9, hso9⟩ := hpv9 (by omega)
                            refine o_gy rfl (.yes rfl (congrArg Value.bool (decide_eq_true c1626))) (y_sub rfl rfl (c := ((k - 1 : Nat) : Int)) (by omega) (by omega)) ?_
                            refine o_gy rfl (.yes rfl (congrArg Value.bool (decide_eq_true c1626))) (y_idx so63 sz59 rfl (i := (k - 1)) rfl (by omega)) ?_
                            refine o_gy rfl (.yes rfl (congrArg Value.bool (decide_eq_true c1626))) (y_fld fo59_0 rfl) ?_
                            refine o_gy rfl (.yes rfl (congrArg Value.bool (decide_eq_true c1626))) (y_load (v := (Vi (y9.id))) rfl (rd_ef sc3 (EltsOn.kp (OwnC.elts ((((((hC1377.kp hk1488 id).kp hk1514 id).kp hk1595 id).kp hk1600 id).kp hk1606 (Nat.ne_of_lt (nt (nt (hC1377.lt) (nl hk1488.size hk1514.size)) (Nat.le_refl _)))).kp hk1622 id)) id) hy9 rfl)) ?_
                            refine o_gy rfl (.yes rfl (congrArg Value.bool (decide_eq_true c1626))) (y_move (v := (.slice (some ⟨rb1375, 0, none⟩) ys9.length cap1376)) g1615) ?_
                            refine o_gy rfl (.yes rfl (congrArg Value.bool (decide_eq_true c1626))) (y_move (v := (Vi (((k : Nat) : Int)))) g1616) ?_
                            refine o_gy rfl (.yes rfl (congrArg Value.bool (decide_eq_true c1626))) (y_idx so63 sz59 rfl (i := k) rfl (by omega)) ?_
                            refine o_gy rfl (.yes rfl (congrArg Value.bool (decide_eq_true c1626))) (y_fld fo59_0 rfl) ?_
                            refine o_gy rfl (.yes rfl (congrArg Value.bool (decide_eq_true c1626))) (y_load (v := (Vi (z9.id))) rfl (rd_ef sc3 (EltsOn.kp (OwnC.elts ((((((hC1377.kp hk1488 id).kp hk1514 id).kp hk1595 id).kp hk1600 id).kp hk1606 (Nat.ne_of_lt (nt (nt (hC1377.lt) (nl hk1488.size hk1514.size)) (Nat.le_refl _)))).kp hk1622 id)) id) hz9 rfl)) ?_
                            refine o_gy rfl (.yes rfl (congrArg Value.bool (decide_eq_true c1626))) (y_geq rfl rfl) ?_
                            refine o_gy rfl (.yes rfl (congrArg Value.bool (decide_eq_false c1625))) (y_pick_t (congrArg Value.bool (decide_eq_true c1626)) (v := (.bool (decide ((z9.id : Int) ≤ y9.id)))) rfl) ?_
                            refine o_y rfl (y_pick_f (congrArg Value.bool (decide_eq_false c1625)) (v := (.bool (decide ((z9.id : Int) ≤ y9.id)))) rfl) ?_
                            refine o_done (hK1619 _ _ (genC [(0, (Vi max)), (1, (.slice (some ⟨ab, ao, none⟩) n c)), (5, (Vp g.tb 0)), (7, (.map (some w38.heap.size))), (8, (Vi (((i : Nat) : Int)))), (19, (.slice (some ⟨rb1375, 0, none⟩) ys9.length cap1376)), (20, (Vi (((k : Nat) : Int)))), (300, (.bool (decide ((z9.id : Int) ≤ y9.id))))] ⟨g1610, g1611, g1612, g1613, g1614, g1615, g1616, rfl, trivial⟩ ?_))
                            clear hK1619; rintro E ⟨g1627, g1628, g1629, g1630, g1631, g1632, g1633, g1634, -⟩
                            refine cond_d g1634 (fun c1635 => ?_) (fun c1635 => ?_)
                            · omega
                            · refine skip (hK1510 _ _ (genC [(0, (Vi max)), (1, (.slice (some ⟨ab, ao, none⟩) n c)), (5, (Vp g.tb 0)), (7, (.map (some w38.heap.size))), (8, (Vi (((i : Nat) : Int)))), (19, (.slice (some ⟨rb1375, 0, none⟩) ys9.length cap1376)), (20, (Vi (((k : Nat) : Int))))] ⟨g1627, g1628, g1629, g1630, g1631, g1632, g1633, trivial⟩ ?_))
                              clear hK1510; rintro E ⟨g1636, g1637, g1638, g1639, g1640, g1641, g1642, -⟩
                              refine reg ?_
                              refine s_y (y_move (v := (Vi (((k : Nat) : Int)))) g1642) rfl ?_
                              refine s_y (y_add rfl rfl (c := ((k : Nat) : Int) + 1) (by omega) rfl) rfl ?_
                              refine s_y (y_assign (v := (Vi (((k : Nat) : Int) + 1))) rfl) rfl ?_
                              have kc1643 : Kp (fun _ => False) w1373 w1487 := (Kp.then0 (Kp.refl _ _) hk1488)
                              have kc1644 : Kp (fun _ => False) w1373 w1512 := (Kp.then0 kc1643 hk1514)
                              have kc1645 : Kp (fun _ => False) w1373 w1593 := (Kp.then0 kc1644 hk1595)
                              have kc1646 : Kp (fun _ => False) w1373 w1599 := (Kp.then0 kc1645 hk1600)
                              have kc1647 : Kp (fun _ => False) w1373 w1604 := (Kp.fresh kc1646 hk1606 fun _ e => nl (nl (nl hk1488.size hk1514.size) (Nat.le_refl _)) (Nat.le_of_eq e.symm))
                              have kc1648 : Kp (fun _ => False) w1373 w1620 := (Kp.then0 kc1647 hk1622)
                              exact s_nil (hK1489 (k + 1) _ _ ⟨⟨g1636, g1637, g1638, g1639, g1640, g1641, rfl, trivial⟩, kc1648, (show (k + 1) ≤ ys9.length from (by omega))⟩ (by show (ys9.length - (k + 1)) < (ys9.length - k); omega))
                          · refine o_no rfl (.no rfl (c := false) (congrArg Value.bool (decide_eq_false c1626)) rfl) ?_
                            refine o_no rfl (.no rfl (c := false) (congrArg Value.bool (decide_eq_false c1626)) rfl) ?_
                            refine o_no rfl (.no rfl (c := false) (congrArg Value.bool (decide_eq_false c1626)) rfl) ?_
                            refine o_no rfl (.no rfl (c := false) (congrArg Value.bool (decide_eq_false c1626)) rfl) ?_
                            refine o_no rfl (.no rfl (c := false) (congrArg Value.bool (decide_eq_false c1626)) rfl) ?_
                            refine o_no rfl (.no rfl (c := false) (congrArg Value.bool (decide_eq_false c1626)) rfl) ?_
                            refine o_no rfl (.no rfl (c := false) (congrArg Value.bool (decide_eq_false c1626)) rfl) ?_
                            refine o_no rfl (.no rfl (c := false) (congrArg Value.bool (decide_eq_false c1626)) rfl) ?_
                            refine o_no rfl (.no rfl (c := false) (congrArg Value.bool (decide_eq_false c1626)) rfl) ?_
                            refine o_no rfl (.no rfl (c := false) (congrArg Value.bool (decide_eq_false c1626)) rfl) ?_
                            refine o_no rfl (.no rfl (c := false) (congrArg Value.bool (decide_eq_false c1626)) rfl) ?_
                            refine o_no rfl (.no rfl (c := false) (congrArg Value.bool (decide_eq_false c1626)) rfl) ?_
                            refine o_gy rfl (.yes rfl (congrArg Value.bool (decide_eq_false c1625))) (y_pick_f (congrArg Value.bool (decide_eq_false c1626)) (v := Vf) rfl) ?_
                            refine o_y rfl (y_pick_f (congrArg Value.bool (decide_eq_false c1625)) (v := Vf) rfl) ?_
                            refine o_done (hK1619 _ _ (genC [(0, (Vi max)), (1, (.slice (some ⟨ab, ao, none⟩) n c)), (5, (Vp g.tb 0)), (7, (.map (some w38.heap.size))), (8, (Vi (((i : Nat) : Int)))), (19, (.slice (some ⟨rb1375, 0, none⟩) ys9.length cap1376)), (20, (Vi (((k : Nat) : Int)))), (300, Vf)] ⟨g1610, g1611, g1612, g1613, g1614, g1615, g1616, rfl, trivial⟩ ?_))
                            clear hK1619; rintro E ⟨g1649, g1650, g1651, g1652, g1653, g1654, g1655, g1656, -⟩
                            refine cond_f g1656 ?_
                            refine skip (hK1510 _ _ (genC [(0, (Vi max)), (1, (.slice (some ⟨ab, ao, none⟩) n c)), (5, (Vp g.tb 0)), (7, (.map (some w38.heap.size))), (8, (Vi (((i : Nat) : Int)))), (19, (.slice (some ⟨rb1375, 0, none⟩) ys9.length cap1376)), (20, (Vi (((k : Nat) : Int))))] ⟨g1649, g1650, g1651, g1652, g1653, g1654, g1655, trivial⟩ ?_))
                            clear hK1510; rintro E ⟨g1657, g1658, g1659, g1660, g1661, g1662, g1663, -⟩
                            refine reg ?_
                            refine s_y (y_move (v := (Vi (((k : Nat) : Int)))) g1663) rfl ?_
                            refine s_y (y_add rfl rfl (c := ((k : Nat) : Int) + 1) (by omega) rfl) rfl ?_
                            refine s_y (y_assign (v := (Vi (((k : Nat) : Int) + 1))) rfl) rfl ?_
                            have kc1664 : Kp (fun _ => False) w1373 w1487 := (Kp.then0 (Kp.refl _ _) hk1488)
                            have kc1665 : Kp (fun _ => False) w1373 w1512 := (Kp.then0 kc1664 hk1514)
                            have kc1666 : Kp (fun _ => False) w1373 w1593 := (Kp.then0 kc1665 hk1595)
                            have kc1667 : Kp (fun _ => False) w1373 w1599 := (Kp.then0 kc1666 hk1600)
                            have kc1668 : Kp (fun _ => False) w1373 w1604 := (Kp.fresh kc1667 hk1606 fun _ e => nl (nl (nl hk1488.size hk1514.size) (Nat.le_refl _)) (Nat.le_of_eq e.symm))
                            have kc1669 : Kp (fun _ => False) w1373 w1620 := (Kp.then0 kc1668 hk1622)
                            exact s_nil (hK1489 (k + 1) _ _ ⟨⟨g1657, g1658, g1659, g1660, g1661, g1662, rfl, trivial⟩, kc1669, (show (k + 1) ≤ ys9.length from (by omega))⟩ (by show (ys9.length - (k + 1)) < (ys9.length - k); omega))
                  · refine exit (hK102 _ _ (genC [(0, (Vi max)), (1, (.slice (some ⟨ab, ao, none⟩) n c)), (5, (Vp g.tb 0)), (7, (.map (some w38.heap.size))), (8, (Vi (((i : Nat) : Int))))] ⟨g1494, g1495, g1496, g1497, g1498, trivial⟩ ?_))
                    clear hK102; rintro E ⟨g1670, g1671, g1672, g1673, g1674, -⟩
                    refine reg ?_
                    refine s_y (y_move (v := (Vi (((i : Nat) : Int)))) g1674) rfl ?_
                    refine s_y (y_add rfl rfl (c := ((i : Nat) : Int) + 1) (by omega) rfl) rfl ?_
                    refine s_y (y_assign (v := (Vi (((i : Nat) : Int) + 1))) rfl) rfl ?_
                    have hf1675 := (STab.k0 (STab.k0 ht2 hk1379) hk1488)
                    have hf1676 := (hf1456.kp hk1488 id)
                    have kc1677 : Kp (fun k => w.heap.size ≤ k) w57 w79 := (Kp.trans (Kp.refl _ _) hk80 fun _ _ e => e)
                    have kc1678 : Kp (fun k => w.heap.size ≤ k) w57 w1369 := (Kp.trans kc1677 hk1370 fun _ _ e => e)
                    have kc1679 : Kp (fun k => w.heap.size ≤ k) w57 w1373 := (Kp.then0 kc1678 hk1379)
                    have kc1680 : Kp (fun k => w.heap.size ≤ k) w57 w1487 := (Kp.then0 kc1679 hk1488)
                    exact s_nil (hK81 ((i + 1), a2, s2, ml2) _ _ ⟨⟨g1670, g1671, g1672, g1673, rfl, trivial⟩, kc1680, (show (i + 1) ≤ acts.length from (by omega)), (show STab max g (((i + 1) : Nat) : Int) w.heap.size a2 s2 w1487 from (STab.mono hf1675 (by omega))), (show SMap w1487 w38.heap.size ml2 from hf1676), (show (ml2 : List (Int × Session)).Perm (pairsM (a2).L) from hpm2), (show w38.heap.size ∉ sfp g s2 from hni2)⟩ (by show (acts.length - (i + 1)) < (acts.length - i); omega))
        · refine exit (hK65 _ _ (genC [] trivial ?_))
          clear hK65; rintro E -
          refine seq fun K1681 hK1681 => ?_
          refine reg ?_
          have hf1682 := (((hT.kp hk39 id).kp hk59 id).kp hk80 (Nat.not_le.2 (hT.lt)))
          refine s_e (e_call ca25 (args := []) rfl (swakes_spec hf1682)) rfl ?_
          rintro _ w1683 ⟨rfl, hk1684⟩
          have ka1685 := (Kp.then0 ka87 hk1684)
          refine s_y (y_assign (v := Vt) rfl) rfl ?_
          refine s_nil (hK1681 _ _ (genC [(4, Vt)] ⟨rfl, trivial⟩ ?_))
          clear hK1681; rintro E ⟨g1686, -⟩
          refine ret (hret _ _ [Vt] ⟨g1686, trivial⟩ ?_)
          exact ⟨rfl, ka1685⟩

end Go.Proofs.YtdcnblafepgheaaDoor
