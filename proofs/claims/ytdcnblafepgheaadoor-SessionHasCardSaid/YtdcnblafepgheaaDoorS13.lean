/-
  Written by a program (wip/walks).
-/
import Derived.Test.YtdcnblafepgheaaDoorS12
namespace Go.Proofs.YtdcnblafepgheaaDoor
open Go Go.V
set_option maxRecDepth 100000
/-- a table just made -/
structure NewSes (max : Int) (w w' : World) (g : SesG) : Prop where
  gm : g.max = max
  ok : SesOk g
  is : SesIs g ⟨0, [], ⟨none, [], []⟩, []⟩ w'
  new : ∀ b ∈ sfp g ⟨0, [], ⟨none, [], []⟩, []⟩, w.heap.size ≤ b
theorem newses {max : Int} {w w1 w2 w3 w4 w' : World} {x : IxG} {tb mb om : Nat} {q : QG} (h1 : NewIx max w w1 x) (hmx : max ≤ 65536) (hs : x.ib < w1.heap.size ∧ x.sb < w1.heap.size) (hmb : w1.heap.size ≤ mb) (hmb2 : mb < w2.heap.size) (hq : ∀ b ∈ qfp q ⟨none, [], []⟩, w2.heap.size ≤ b) (hqi : QIs q ⟨none, [], []⟩ w3)
    (hom : w3.heap.size ≤ om) (hom2 : om < w4.heap.size) (htb : w4.heap.size ≤ tb) (h23 : w2.heap.size ≤ w3.heap.size) (_h34 : w3.heap.size ≤ w4.heap.size)
    (blk : Blk w' tb #[.int .i64 max, .int .i64 0, .map (some mb), .pointer (some ⟨x.ib, 0, none⟩), .pointer (some ⟨q.qb, 0, none⟩), .map (some om)] 115)
    (map : MapAt (fun n : Int => .int .i64 n) (fun p : Nat => Value.pointer (some ⟨p, 0, none⟩)) inI w' mb ([] : List (Int × Nat))) (ix : IxIs x (fun _ => none) 0 w') (qi : QIs q ⟨none, [], []⟩ w')
    (omap : MapAt (fun n : Int => .int .i64 n) (fun b : Nat => Value.map (some b)) inI w' om ([] : List (Int × Nat))) (ht : Tb w') (htw : Tb w) : NewSes max w w' ⟨tb, mb, om, x, q, max⟩ := by
  have a1 := h1.ib; have a2 := h1.sb
  have n1 : x.ib ≠ x.sb := by obtain ⟨sl, hr, _⟩ := h1.is; exact hr.ne
  have hql : ∀ b ∈ qfp q ⟨none, [], []⟩, b < w3.heap.size := hqi.lt
  have e : sfp ⟨tb, mb, om, x, q, max⟩ ⟨0, [], ⟨none, [], []⟩, []⟩ = [tb, mb, om, x.ib, x.sb] ++ (qfp q ⟨none, [], []⟩ ++ ([] ++ [])) := rfl
  have hnew : ∀ b ∈ sfp ⟨tb, mb, om, x, q, max⟩ ⟨0, [], ⟨none, [], []⟩, []⟩, w.heap.size ≤ b := by
    rw [e]; intro b hb
    rcases List.mem_append.1 hb with hb | hb
    · simp at hb; rcases hb with rfl | rfl | rfl | rfl | rfl <;> omega
    · rw [List.append_nil, List.append_nil] at hb; have := hq b hb; omega
  have hlt := htw.lt
  refine ⟨rfl, ⟨h1.ok, h1.n, hmx⟩, ⟨blk, map, (fun p hp => by cases hp), ix, qi, omap, (fun p hp => by cases hp), (fun b => List.Perm.nil), (fun p hp => by cases hp), List.Perm.nil, ht, ?_, fun hm => by have := hnew _ hm; omega⟩, hnew⟩
  rw [e, List.append_nil, List.append_nil, List.nodup_append]
  refine ⟨?_, qi.nd, fun a ha b hb => ?_⟩
  · simp only [List.nodup_cons, List.mem_cons, List.not_mem_nil, or_false, not_or, not_false_eq_true, List.nodup_nil, and_true]
    omega
  · have := hq b hb; have := hql b hb
    simp at ha; rcases ha with rfl | rfl | rfl | rfl | rfl <;> omega
def sord (a b : Session) : Prop := a.due < b.due ∨ (a.due = b.due ∧ a.id < b.id)
/-- no two sessions of one key -/
def KeyU (l : List (Session × Nat)) : Prop := ∀ p ∈ l, ∀ q ∈ l, q.1.binding = p.1.binding → q.1.peer = p.1.peer → q = p
def RngU (l : List (Session × Nat)) : Prop := ∀ p ∈ l, (-9223372036854775808 ≤ p.1.binding ∧ p.1.binding ≤ 9223372036854775807) ∧ (-9223372036854775808 ≤ p.1.peer.port ∧ p.1.peer.port ≤ 9223372036854775807)
/-- how far a popping has come -/
structure PopI (g : SesG) (st : SesS) (w : World) (now : Int) (xs : List Session) (s2 : SesS) : Prop where
  last : s2.last = st.last
  perm : (xs ++ s2.l.map (·.1)).Perm (st.l.map (·.1))
  sub : s2.l.Sublist st.l
  due : ∀ x ∈ xs, x.due ≤ now
  srt : xs.Pairwise sord
  bef : ∀ x ∈ xs, ∀ p ∈ s2.l, sord x p.1
  fp : ∀ b ∈ sfp g s2, b ∈ sfp g st ∨ w.heap.size ≤ b
def NextV (q : QS) (i d : Int) (k : Bool) : Prop := (q.l = [] ∧ k = false) ∨ (q.l ≠ [] ∧ i = (ix q.l 0).id ∧ d = (ix q.l 0).due ∧ k = true)
section
variable {g : SesG} {st s2 : SesS} {w w2 : World}
theorem PopI.start (h : SesIs g st w) (now : Int) : PopI g st w now [] st := by
  have := h
  exact ⟨rfl, .refl _, List.Sublist.refl _, fun _ h => (by cases h), .nil, fun _ h => (by cases h), fun _ h => .inl h⟩
theorem cutS_perm {l : List (Session × Nat)} (hn : (l.map (·.1.id)).Nodup) {p : Session × Nat} (hp : p ∈ l) : ([p.1] ++ (cutS l p.1.id).map (·.1)).Perm (l.map (·.1)) := by
  induction l with
  | nil => cases hp
  | cons y l ih =>
    rw [List.map_cons, List.nodup_cons] at hn
    rcases List.mem_cons.1 hp with e | e
    · subst e
      have : cutS (p :: l) p.1.id = l := by
        unfold cutS; rw [List.filter_cons_of_neg (by simp)]
        exact List.filter_eq_self.2 fun a ha => by
          have : a.1.id ≠ p.1.id := fun e => hn.1 (List.mem_map.2 ⟨a, ha, e⟩)
          simp [this]
      rw [this]; exact .refl _
    · have : y.1.id ≠ p.1.id := fun e2 => hn.1 (List.mem_map.2 ⟨p, e, e2.symm⟩)
      have h2 : cutS (y :: l) p.1.id = y :: cutS l p.1.id := by unfold cutS; rw [List.filter_cons_of_pos (by simp [this])]
      rw [h2, List.map_cons, List.map_cons]
      exact List.perm_middle.trans ((ih hn.2 e).cons _)
theorem next_at (h : SesIs g st w) {i d : Int} {k : Bool} (hn : NextV st.qs i d k) (hk : k = true) : ∃ p ∈ st.l, p.1.id = i ∧ p.1.due = d ∧ ∀ q ∈ st.l, q ≠ p → sord p.1 q.1 := by
  rcases hn with ⟨_, e⟩ | ⟨h1, h2, h3, _⟩
  · rw [e] at hk; cases hk
  · have hl := List.length_pos_iff.2 h1
    obtain ⟨p, hp, e1, e2⟩ := qs_ids h.due (ix_mem hl)
    refine ⟨p, hp, by rw [h2, e1], by rw [h3, e2], fun q hq hne => ?_⟩
    have hm : (⟨q.1.id, q.1.due⟩ : Thing) ∈ st.qs.l := h.due.mem_iff.2 (List.mem_map.2 ⟨q, hq, rfl⟩)
    obtain ⟨j, hj, e3⟩ := List.getElem_of_mem hm
    have e4 : ix st.qs.l j = ⟨q.1.id, q.1.due⟩ := ix_some (by rw [List.getElem?_eq_getElem hj, e3])
    have := h.q.heap.least j hj
    rw [e4] at this
    have hne2 : q.1.id ≠ p.1.id := fun e => hne (h.same hp hq e)
    unfold ahd at this; unfold sord; rw [e1, e2]; simp only at this; rw [e1] at hne2; omega
theorem next_end (h : SesIs g st w) {i d now : Int} {k : Bool} (hn : NextV st.qs i d k) (hk : ¬ (k = true ∧ d ≤ now)) : ∀ p ∈ st.l, now < p.1.due := by
  intro q hq
  have hm : (⟨q.1.id, q.1.due⟩ : Thing) ∈ st.qs.l := h.due.mem_iff.2 (List.mem_map.2 ⟨q, hq, rfl⟩)
  rcases hn with ⟨e, _⟩ | ⟨h1, h2, h3, h4⟩
  · rw [e] at hm; cases hm
  · obtain ⟨j, hj, e3⟩ := List.getElem_of_mem hm
    have e4 : ix st.qs.l j = ⟨q.1.id, q.1.due⟩ := ix_some (by rw [List.getElem?_eq_getElem hj, e3])
    have := h.q.heap.least j hj
    rw [e4] at this
    unfold ahd at this; simp only at this
    have : ¬ d ≤ now := fun e => hk ⟨h4, e⟩
    omega
theorem PopI.step {now : Int} {xs : List Session} (hP : PopI g st w now xs s2) (hI : SesIs g s2 w2) (hw : w.heap.size ≤ w2.heap.size) {p : Session × Nat} (hp : p ∈ s2.l) (hd : p.1.due ≤ now) (hmin : ∀ q ∈ s2.l, q ≠ p → sord p.1 q.1) {s3 : SesS} {w3 : World} (hN : SesNx g s2 w2 s3 w3) (e1 : s3.last = s2.last) (e2 : s3.l = cutS s2.l p.1.id) : PopI g st w now (xs ++ [p.1]) s3 := by
  have hsub : s3.l.Sublist s2.l := by rw [e2]; exact List.filter_sublist
  refine ⟨e1.trans hP.last, ?_, hsub.trans hP.sub, fun x hx => ?_, ?_, fun x hx q hq => ?_, fun b hb => (hN.sub b hb).elim (hP.fp b) fun e => .inr (Nat.le_trans hw e)⟩
  · rw [e2, List.append_assoc]; exact ((cutS_perm hI.ids hp).append_left xs).trans hP.perm
  · rcases List.mem_append.1 hx with hx | hx
    · exact hP.due x hx
    · rw [List.mem_singleton.1 hx]; exact hd
  · rw [List.pairwise_append]; exact ⟨hP.srt, List.pairwise_singleton _ _, fun x hx y hy => by rw [List.mem_singleton.1 hy]; exact hP.bef x hx p hp⟩
  · rcases List.mem_append.1 hx with hx | hx
    · exact hP.bef x hx q (hsub.subset hq)
    · rw [List.mem_singleton.1 hx]
      refine hmin q (hsub.subset hq) fun e => ?_
      rw [e2] at hq
      have := (List.mem_filter.1 hq).2
      rw [e] at this; simp at this
theorem PopI.key {now : Int} {xs : List Session} (hP : PopI g st w now xs s2) (hu : KeyU st.l) {p : Session × Nat} (hp : p ∈ s2.l) : ∀ q ∈ s2.l, q.1.binding = p.1.binding → q.1.peer = p.1.peer → q = p := fun q hq => hu p (hP.sub.subset hp) q (hP.sub.subset hq)
def RowP (g : SesG) (B : Nat) (r : Option (Nat × Nat)) (xs : List Session) (s : SesS) (w : World) : Prop :=
  match r with
  | none => xs = []
  | some p => OwnC Session.cs 9 w p.1 59 p.2 xs ∧ B ≤ p.1 ∧ p.1 ∉ sfp g s
theorem SesNx.nin {s3 : SesS} {w3 : World} (hN : SesNx g s2 w2 s3 w3) {b : Nat} (h : b ∉ sfp g s2) (hb : b < w2.heap.size) : b ∉ sfp g s3 := fun e => (hN.sub b e).elim h fun e => by omega
theorem SesIs.notin (h : SesIs g st w) {b : Nat} (hb : w.heap.size ≤ b) : b ∉ sfp g st := fun e => by have := h.lt b e; omega
end
def rowq : Option (Nat × Nat) → List Session → Value
  | none, _ => .slice none 0 0
  | some p, xs => .slice (some ⟨p.1, 0, none⟩) xs.length p.2
theorem rowq_of {n : Nat} {xs : List Session} (h : n = xs.length) (b c : Nat) : Value.slice (some ⟨b, 0, none⟩) n c = rowq (some (b, c)) xs := by subst h; rfl
theorem pop_len {g : SesG} {st s2 : SesS} {w : World} {now : Int} {xs : List Session} (hP : PopI g st w now xs s2) (hc : st.l.length ≤ 1000000) {p : Session × Nat} (hp : p ∈ s2.l) : xs.length + 1 ≤ 1000000 := by
  have h1 := hP.perm.length_eq
  rw [List.length_append, List.length_map, List.length_map] at h1
  have := List.length_pos_of_mem hp; omega
/-- a row handed back that is not the table's -/
def SesW (g : SesG) (s2 : SesS) (w0 : World) (ys : List Session) (v : Value) (w : World) : Prop := (ys = [] ∧ v = .slice none 0 0) ∨ ∃ rb cap, v = .slice (some ⟨rb, 0, none⟩) ys.length cap ∧ OwnC Session.cs 9 w rb 59 cap ys ∧ w0.heap.size ≤ rb ∧ rb ∉ sfp g s2
theorem SesW.v {g : SesG} {s2 : SesS} {w0 w : World} {ys : List Session} {v : Value} (h : SesW g s2 w0 ys v w) : SesV w0 ys v w := h.imp id fun ⟨rb, cap, h1, h2, h3, _⟩ => ⟨rb, cap, h1, h2, h3⟩
theorem RowP.sesV {g : SesG} {w w' : World} {r : Option (Nat × Nat)} {xs : List Session} {s : SesS} (h : RowP g w.heap.size r xs s w') : SesW g s w xs (rowq r xs) w' := by
  cases r with
  | none => exact .inl ⟨h, rfl⟩
  | some p => exact .inr ⟨p.1, p.2, rfl, h.1, h.2.1, h.2.2⟩
abbrev SN (g : SesG) (st : SesS) (w : World) (k : Nat) : Prop := k ∈ sfp g st ∨ w.heap.size ≤ k
theorem sesnew_spec {max : Int} {w : World} (hm : -9223372036854775808 ≤ max ∧ max ≤ 9223372036854775807) (hT : Tb w) : Rets Tryd.prog 26 #[(.int .i64 max)] w fun v w' => ((¬ (1 ≤ max ∧ max ≤ 65536) ∧ v = .tuple #[.pointer none, .int .i64 1]) ∨ ((1 ≤ max ∧ max ≤ 65536) ∧ ∃ g : SesG, v = .tuple #[.pointer (some ⟨g.tb, 0, none⟩), .int .i64 0] ∧ NewSes max w w' g)) ∧ K0 w w' := by
  refine enter Tryd.func26 rfl Tryd.ntmps26 rfl fun Q hret hend E hE => ?_
  have g1 : E 0 = (Vi max) := hE 0
  clear hE
  refine seq fun K2 hK2 => ?_
  refine reg ?_
  refine s_y (y_assign (v := (.pointer none)) rfl) rfl ?_
  refine s_y (y_assign (v := (Vi 0)) rfl) rfl ?_
  refine s_nil (hK2 _ _ (genC [(0, (Vi max))] ⟨g1, trivial⟩ ?_))
  clear hK2; rintro E ⟨g3, -⟩
  refine seq fun K4 hK4 => ?_
  refine reg ?_
  refine s_y (y_move (v := (Vi max)) g3) rfl ?_
  refine s_e (e_call ca44 (args := [(Vi max)]) rfl (ixnew_spec max _ hm)) rfl ?_
  rintro _ w5 ⟨⟨hx8, rfl⟩ | ⟨hx8, x7, rfl, hnx9⟩, hk6⟩
  · have ka10 : Kp (fun _ => False) w w5 := (Kp.then0 (Kp.refl _ _) hk6)
    refine s_y (y_move (v := (.tuple #[(.pointer none), (Vi 1)])) rfl) rfl ?_
    refine s_y (y_ext rfl (v := (.pointer none)) rfl) rfl ?_
    refine s_y (y_ext rfl (v := (Vi 1)) rfl) rfl ?_
    refine s_y (y_assign (v := (.pointer none)) rfl) rfl ?_
    refine s_y (y_assign (v := (Vi 1)) rfl) rfl ?_
    refine s_nil (hK4 _ _ (genC [(0, (Vi max)), (4, (.pointer none)), (5, (Vi 1))] ⟨g3, rfl, rfl, trivial⟩ ?_))
    clear hK4; rintro E ⟨g11, g12, g13, -⟩
    refine seq fun K14 hK14 => ?_
    refine seq fun K15 hK15 => ?_
    refine reg ?_
    refine s_y (y_move (v := (Vi 1)) g13) rfl ?_
    refine s_y (y_neq rfl rfl) rfl ?_
    refine s_nil (hK15 _ _ (genC [(0, (Vi max)), (4, (.pointer none)), (5, (Vi 1)), (12, Vt)] ⟨g11, g12, g13, rfl, trivial⟩ ?_))
    clear hK15; rintro E ⟨g16, g17, g18, g19, -⟩
    refine cond_t g19 ?_
    refine seq fun K20 hK20 => ?_
    refine reg ?_
    refine s_y (y_move (v := (Vi 1)) g18) rfl ?_
    refine s_y (y_assign (v := (.pointer none)) rfl) rfl ?_
    refine s_y (y_assign (v := (Vi 1)) rfl) rfl ?_
    refine s_nil (hK20 _ _ (genC [(2, (.pointer none)), (3, (Vi 1))] ⟨rfl, rfl, trivial⟩ ?_))
    clear hK20; rintro E ⟨g21, g22, -⟩
    refine ret (hret _ _ [(.pointer none), (Vi 1)] ⟨g21, g22, trivial⟩ ?_)
    exact ⟨.inl ⟨hx8, rfl⟩, ka10⟩
  · have ka23 : Kp (fun _ => False) w w5 := (Kp.then0 (Kp.refl _ _) hk6)
    refine s_y (y_move (v := (.tuple #[(Vp x7.ib 0), (Vi 0)])) rfl) rfl ?_
    refine s_y (y_ext rfl (v := (Vp x7.ib 0)) rfl) rfl ?_
    refine s_y (y_ext rfl (v := (Vi 0)) rfl) rfl ?_
    refine s_y (y_assign (v := (Vp x7.ib 0)) rfl) rfl ?_
    refine s_y (y_assign (v := (Vi 0)) rfl) rfl ?_
    refine s_nil (hK4 _ _ (genC [(0, (Vi max)), (4, (Vp x7.ib 0)), (5, (Vi 0))] ⟨g3, rfl, rfl, trivial⟩ ?_))
    clear hK4; rintro E ⟨g24, g25, g26, -⟩
    refine seq fun K27 hK27 => ?_
    refine seq fun K28 hK28 => ?_
    refine reg ?_
    refine s_y (y_move (v := (Vi 0)) g26) rfl ?_
    refine s_y (y_neq rfl rfl) rfl ?_
    refine s_nil (hK28 _ _ (genC [(0, (Vi max)), (4, (Vp x7.ib 0)), (5, (Vi 0)), (12, Vf)] ⟨g24, g25, g26, rfl, trivial⟩ ?_))
    clear hK28; rintro E ⟨g29, g30, g31, g32, -⟩
    refine cond_f g32 ?_
    refine skip (hK27 _ _ (genC [(0, (Vi max)), (4, (Vp x7.ib 0))] ⟨g29, g30, trivial⟩ ?_))
    clear hK27; rintro E ⟨g33, g34, -⟩
    refine seq fun K35 hK35 => ?_
    refine reg ?_
    refine s_y (y_move (v := (Vi max)) g33) rfl ?_
    refine s_e e_makeMap rfl ?_
    rintro _ w36 ⟨rfl, hm37, hk38⟩
    have ka39 := (Kp.then0 ka23 hk38)
    have hmm40 : MapAt (fun n : Int => Value.int .i64 n) (fun p : Nat => Value.pointer (some ⟨p, 0, none⟩)) inI w36 w5.heap.size ([] : List (Int × Nat)) := MapAt.new hm37
    refine s_y (y_move (v := (Vp x7.ib 0)) g34) rfl ?_
    refine s_e (e_call ca60 (args := []) rfl (qnew_spec)) rfl ?_
    rintro _ w41 ⟨⟨q42, rfl, hq43, hf44⟩, hk45⟩
    have ka46 := (Kp.then0 ka39 hk45)
    refine s_e e_makeMap rfl ?_
    rintro _ w47 ⟨rfl, hm48, hk49⟩
    have ka50 := (Kp.then0 ka46 hk49)
    have hmm51 : MapAt (fun n : Int => Value.int .i64 n) (fun b : Nat => Value.map (some b)) inI w47 w41.heap.size ([] : List (Int × Nat)) := MapAt.new hm48
    refine s_y (y_build (vs := [(0, (Vi max)), (2, (.map (some w5.heap.size))), (3, (Vp x7.ib 0)), (4, (Vp q42.qb 0)), (5, (.map (some w41.heap.size)))]) (v := (.agg #[.int .i64 max, .int .i64 0, .map (some w5.heap.size), .pointer (some ⟨x7.ib, 0, none⟩), .pointer (some ⟨q42.qb, 0, none⟩), .map (some w41.heap.size)])) rfl (fun _ => by kernel_rfl)) rfl ?_
    refine s_e (e_box (v := (.agg #[.int .i64 max, .int .i64 0, .map (some w5.heap.size), .pointer (some ⟨x7.ib, 0, none⟩), .pointer (some ⟨q42.qb, 0, none⟩), .map (some w41.heap.size)])) rfl) rfl ?_
    rintro _ w52 ⟨rfl, hb53, hk54⟩
    have ka55 := (Kp.then0 ka50 hk54)
    refine s_y (y_assign (v := (Vp w47.heap.size 0)) rfl) rfl ?_
    refine s_y (y_assign (v := (Vi 0)) rfl) rfl ?_
    refine s_nil (hK35 _ _ (genC [(2, (Vp w47.heap.size 0)), (3, (Vi 0))] ⟨rfl, rfl, trivial⟩ ?_))
    clear hK35; rintro E ⟨g56, g57, -⟩
    refine ret (hret _ _ [(Vp w47.heap.size 0), (Vi 0)] ⟨g56, g57, trivial⟩ ?_)
    have hf58 := (((hmm40.kp hk45 id).kp hk49 id).kp hk54 id)
    have hf59 := (IxIs.kp (IxIs.kp (IxIs.kp (IxIs.kp (NewIx.is hnx9) hk38 id id) hk45 id id) hk49 id id) hk54 id id)
    have hf60 := (QIs.k0 (QIs.k0 hq43 hk49) hk54)
    have hf61 := (hmm51.kp hk54 id)
    have hf62 := (((((hT.kp hk6 id).kp hk38 id).kp hk45 id).kp hk49 id).kp hk54 id)
    exact ⟨.inr ⟨hx8, _, rfl, newses (w3 := w41) (w4 := w47) hnx9 (by omega) (IxIs.lt (NewIx.is hnx9)) (Nat.le_refl _) (hmm40.lt) hf44 hq43 (Nat.le_refl _) (hmm51.lt) (Nat.le_refl _) hk45.size hk49.size hb53 hf58 hf59 hf60 hf61 hf62 hT⟩, ka55⟩

theorem spop_spec {g : SesG} {st : SesS} {w : World} (ok : SesOk g) (h : SesIs g st w) (now : Int) (hu : KeyU st.l) (hr : RngU st.l) (hc : st.l.length ≤ 1000000)  : Rets Tryd.prog 30 #[(.pointer (some ⟨g.tb, 0, none⟩)), (.int .i64 now)] w fun v w' => ∃ s2 xs, SesNx g st w s2 w' ∧ PopI g st w now xs s2 ∧ (∀ p ∈ s2.l, now < p.1.due) ∧ SesW g s2 w xs v w' := by
  refine enter Tryd.func30 rfl Tryd.ntmps30 rfl fun Q hret hend E hE => ?_
  have g1 : E 0 = (Vp g.tb 0) := hE 0
  have g2 : E 1 = (Vi now) := hE 1
  clear hE
  have hb0 := h.blk; have hm0 := h.map; have hT0 := h.tb; have hx0 := h.ix; have hq0 := h.q; have ho0 := h.omap
  refine seq fun K3 hK3 => ?_
  refine reg ?_
  refine s_y (y_assign (v := (.slice none 0 0)) rfl) rfl ?_
  refine s_nil (hK3 _ _ (genC [(0, (Vp g.tb 0)), (1, (Vi now))] ⟨g1, g2, trivial⟩ ?_))
  clear hK3; rintro E ⟨g4, g5, -⟩
  refine seq fun K6 hK6 => ?_
  refine reg ?_
  refine s_y (y_assign (v := (.slice none 0 0)) rfl) rfl ?_
  refine s_nil (hK6 _ _ (genC [(0, (Vp g.tb 0)), (1, (Vi now)), (5, (.slice none 0 0))] ⟨g4, g5, rfl, trivial⟩ ?_))
  clear hK6; rintro E ⟨g7, g8, g9, -⟩
  refine seq fun K10 hK10 => ?_
  refine seq fun K11 hK11 => ?_
  refine reg ?_
  refine s_y (y_move (v := (Vp g.tb 0)) g7) rfl ?_
  refine s_e (e_call ca61 (args := [(Vp g.tb 0)]) rfl (snone_spec h)) rfl ?_
  rintro _ w12 ⟨rfl, hk13⟩
  have ka14 : Kp (fun k => SN g st w k) w w12 := (Kp.then0 (Kp.refl _ _) hk13)
  refine s_nil (hK11 _ _ (genC [(0, (Vp g.tb 0)), (1, (Vi now)), (5, (.slice none 0 0)), (12, Vf)] ⟨g7, g8, g9, rfl, trivial⟩ ?_))
  clear hK11; rintro E ⟨g15, g16, g17, g18, -⟩
  refine cond_f g18 ?_
  refine skip (hK10 _ _ (genC [(0, (Vp g.tb 0)), (1, (Vi now)), (5, (.slice none 0 0))] ⟨g15, g16, g17, trivial⟩ ?_))
  clear hK10; rintro E ⟨g19, g20, g21, -⟩
  refine seq fun K22 hK22 => ?_
  refine seq fun K23 hK23 => ?_
  refine reg ?_
  refine s_y (y_move (v := (Vp g.tb 0)) g19) rfl ?_
  refine s_y (y_nil rfl) rfl ?_
  refine s_y (y_fld fo115_4 rfl) rfl ?_
  have hb24 := (hk13.get0 hb0)
  refine s_y (y_load (v := (Vp g.q.qb 0)) rfl (rd_sc sc111 (On.now hb24) rfl)) rfl ?_
  have hf25 := (SesIs.k0 h hk13)
  refine s_e (e_call ca67 (args := [(Vp g.q.qb 0)]) rfl (qnext_spec (SesIs.q hf25))) rfl ?_
  rintro _ w26 ⟨⟨hz27, rfl⟩ | ⟨hz28, rfl⟩, hk29⟩
  · have ka30 := (Kp.then0 ka14 hk29)
    refine s_y (y_move (v := (.tuple #[(Vi 0), (Vi 0), Vf])) rfl) rfl ?_
    refine s_y (y_ext rfl (v := (Vi 0)) rfl) rfl ?_
    refine s_y (y_ext rfl (v := (Vi 0)) rfl) rfl ?_
    refine s_y (y_ext rfl (v := Vf) rfl) rfl ?_
    refine s_y (y_assign (v := (Vi 0)) rfl) rfl ?_
    refine s_y (y_assign (v := (Vi 0)) rfl) rfl ?_
    refine s_y (y_assign (v := Vf) rfl) rfl ?_
    refine s_nil (hK23 _ _ (genC [(0, (Vp g.tb 0)), (1, (Vi now)), (5, (.slice none 0 0)), (6, (Vi 0)), (7, (Vi 0)), (8, Vf)] ⟨g19, g20, g21, rfl, rfl, rfl, trivial⟩ ?_))
    clear hK23; rintro E ⟨g31, g32, g33, g34, g35, g36, -⟩
    refine block ?_
    have hf37 := (SesIs.k0 hf25 hk29)
    refine loopG (X := SesS × Option (Nat × Nat) × List Session × Int × Int × Bool) (fun q_ E w_ => Has E [(0, (Vp g.tb 0)), (1, (Vi now)), (5, (rowq q_.2.1 q_.2.2.1)), (6, (Vi (q_.2.2.2.1))), (7, (Vi (q_.2.2.2.2.1))), (8, (.bool (q_.2.2.2.2.2)))] ∧ Kp (fun k => SN g st w k) w26 w_ ∧ (SesIs g q_.1 w_) ∧ (PopI g st w now q_.2.2.1 q_.1) ∧ (RowP g w.heap.size q_.2.1 q_.2.2.1 q_.1 w_) ∧ (NextV q_.1.qs q_.2.2.2.1 q_.2.2.2.2.1 q_.2.2.2.2.2)) (fun q_ => q_.1.l.length) (st, none, [], 0, 0, false) ⟨⟨g31, g32, g33, g34, g35, g36, trivial⟩, Kp.refl _ _, (show SesIs g st w26 from hf37), (show PopI g st w now ([]) st from PopI.start h now), (show RowP g w.heap.size none ([]) st w26 from rfl), (show NextV st.qs 0 0 false from (.inl ⟨hz27, rfl⟩))⟩ ?_
    rintro ⟨s2, r, xs, i, d, k⟩ E w44 ⟨⟨g38, g39, g40, g41, g42, g43, -⟩, hk45, hi47, hi48, hi49, hi50⟩ K46 hK46
    replace g38 : E 0 = (Vp g.tb 0) := g38
    replace g39 : E 1 = (Vi now) := g39
    replace g40 : E 5 = (rowq r xs) := g40
    replace g41 : E 6 = (Vi i) := g41
    replace g42 : E 7 = (Vi d) := g42
    replace g43 : E 8 = (.bool (k)) := g43
    replace hi47 : SesIs g s2 w44 := hi47
    replace hi48 : PopI g st w now xs s2 := hi48
    replace hi49 : RowP g w.heap.size r xs s2 w44 := hi49
    replace hi50 : NextV s2.qs i d k := hi50
    have ka51 := (Kp.trans ka30 hk45 (fun _ _ e => e))
    have hI9 := hi47; have hP9 := hi48; have hn9 := hi50
    have hb52 := SesIs.blk hI9
    refine seq fun K53 hK53 => ?_
    refine seq fun K54 hK54 => ?_
    refine reg ?_
    refine s_y (y_move (v := (.bool (k))) g43) rfl ?_
    refine s_y (y_move (v := (.bool (k))) rfl) rfl ?_
    refine (Bool.eq_false_or_eq_true (k)).elim (fun c55 => ?_) (fun c55 => ?_)
    · refine s_gy (.yes rfl (congrArg Value.bool c55)) (y_move (v := (Vi d)) g42) rfl ?_
      refine s_gy (.yes rfl (congrArg Value.bool c55)) (y_move (v := (Vi now)) g39) rfl ?_
      refine s_gy (.yes rfl (congrArg Value.bool c55)) (y_leq rfl rfl) rfl ?_
      refine s_y (y_pick_t (congrArg Value.bool c55) (v := (.bool (decide ((d : Int) ≤ now)))) rfl) rfl ?_
      refine s_nil (hK54 _ _ (genC [(0, (Vp g.tb 0)), (1, (Vi now)), (5, (rowq r xs)), (6, (Vi i)), (27, (.bool (decide ((d : Int) ≤ now))))] ⟨g38, g39, g40, g41, rfl, trivial⟩ ?_))
      clear hK54; rintro E ⟨g56, g57, g58, g59, g60, -⟩
      refine cond_d g60 (fun c61 => ?_) (fun c61 => ?_)
      · obtain ⟨p9, hp9, hpi9, hpd9, hmin9⟩ := next_at hI9 hn9 c55; have hd9 : p9.1.due ≤ now := by omega
        cases r with
        | none =>
          have hr9 : xs = [] := hi49
          refine skip (hK53 _ _ (genC [(0, (Vp g.tb 0)), (1, (Vi now)), (5, (.slice none 0 0)), (6, (Vi (p9.1.id)))] ⟨g56, g57, g58, (Eq.trans g59 (congrArg (Value.int .i64) hpi9.symm)), trivial⟩ ?_))
          clear hK53; rintro E ⟨g62, g63, g64, g65, -⟩
          refine seq fun K66 hK66 => ?_
          refine block ?_
          refine seq fun K67 hK67 => ?_
          refine reg ?_
          refine s_y (y_move (v := (Vp g.tb 0)) g62) rfl ?_
          refine s_y (y_move (v := (Vi (p9.1.id))) g65) rfl ?_
          refine s_e (e_call ca29 (args := [(Vp g.tb 0), (Vi (p9.1.id))]) rfl (sdrop_some ok hI9 hp9 (hP9.key hu hp9) (hr _ (hP9.sub.subset hp9)).1 (hr _ (hP9.sub.subset hp9)).2)) rfl ?_
          rintro _ w68 ⟨s69, hN70, rfl, hl71, hl72⟩
          have ka73 := (Kp.trans ka51 (SesNx.kp hN70) fun i hi e => (fun e => (fun e => e) (PopI.fp hP9 _ e)) e)
          have hI74 := SesNx.is hN70
          have hb75 := SesIs.blk hI74
          refine s_y (y_move (v := (.tuple #[(sv p9.1), (Vi 0)])) rfl) rfl ?_
          refine s_y (y_ext rfl (v := (sv p9.1)) rfl) rfl ?_
          refine s_y (y_ext rfl (v := (Vi 0)) rfl) rfl ?_
          refine s_e (e_alloc ze59) rfl ?_
          rintro _ w76 ⟨rfl, hb77, hk78⟩
          have ka79 := (Kp.then0 ka73 hk78)
          refine s_e0 (e_storeV (cs' := p9.1.cs.toArray) p9.1.cs rfl (v := (sv p9.1)) rfl rfl sz59 hb77 rfl rfl rfl) ?_
          rintro _ w80 ⟨hb81, hk82⟩
          have hz84 := (nl (nl (nl hk13.size hk29.size) hk45.size) (SesNx.kp hN70).size)
          have ka83 := (Kp.fresh ka79 hk82 fun _ e => nl (nl hz84 (Nat.le_refl _)) (Nat.le_of_eq e.symm))
          refine s_y (y_assign (v := (Vi 0)) rfl) rfl ?_
          refine s_nil (hK67 _ _ (genC [(0, (Vp g.tb 0)), (1, (Vi now)), (5, (.slice none 0 0)), (9, (Vp w68.heap.size 0))] ⟨g62, g63, g64, rfl, trivial⟩ ?_))
          clear hK67; rintro E ⟨g85, g86, g87, g88, -⟩
          refine reg ?_
          refine s_y (y_move (v := (.slice none 0 0)) g87) rfl ?_
          refine s_y (y_load (v := (sv p9.1)) g88 (rd_agg (vs := p9.1.cs) ag59 (On.now hb81) (by kernel_rfl) rfl)) rfl ?_
          refine s_e (e_buildSlice (cs := p9.1.cs.toArray) (e := 59) (vs := [(0, (sv p9.1))]) rfl (fun _ => by kernel_rfl)) rfl ?_
          rintro _ w89 ⟨rfl, hb90, hk91⟩
          have ka92 := (Kp.then0 ka83 hk91)
          have hel93 : Elts Session.cs 9 w89 w80.heap.size 0 [p9.1] := Own.all (T := 59) ⟨hb90, fun _ => rfl⟩
          refine s_e (e_append0 so63 ti59 rfl (by decide) (fun _ => rfl) rfl rfl rfl hel93 one_session (by simp) (by simp [maxLen]) (by simp)) rfl ?_
          rintro _ w96 ⟨gb95, cap94, rfl, hC97, rfl, hk98⟩
          have ka99 := (Kp.then0 ka92 hk98)
          refine s_y (y_assign (v := (.slice (some ⟨w89.heap.size, 0, none⟩) 1 cap94)) rfl) rfl ?_
          refine s_nil (hK66 _ _ (genC [(0, (Vp g.tb 0)), (1, (Vi now)), (5, (.slice (some ⟨w89.heap.size, 0, none⟩) 1 cap94))] ⟨g85, g86, rfl, trivial⟩ ?_))
          clear hK66; rintro E ⟨g100, g101, g102, -⟩
          refine reg ?_
          refine s_y (y_move (v := (Vp g.tb 0)) g100) rfl ?_
          refine s_y (y_nil rfl) rfl ?_
          refine s_y (y_fld fo115_4 rfl) rfl ?_
          have hb103 := (hk98.get0 (hk91.get0 (hk82.get (hk78.get0 hb75) (Nat.ne_of_lt (nt (lt_of_get hb75) (Nat.le_refl _))))))
          refine s_y (y_load (v := (Vp g.q.qb 0)) rfl (rd_sc sc111 (On.now hb103) rfl)) rfl ?_
          have hf104 := (SesIs.k0 (SesIs.k0 (SesIs.kp (SesIs.k0 hI74 hk78) hk82 (fun b hb => (fun e => (fun e => Nat.lt_irrefl _ (nt (SesIs.lt hI74 _ e) (nl (Nat.le_refl _) (Nat.le_refl _)))) (e ▸ hb))) (Nat.ne_of_lt (nt (nt (hT0.lt) hz84) (Nat.le_refl _)))) hk91) hk98)
          refine s_e (e_call ca67 (args := [(Vp g.q.qb 0)]) rfl (qnext_spec (SesIs.q hf104))) rfl ?_
          rintro _ w105 ⟨⟨hz106, rfl⟩ | ⟨hz107, rfl⟩, hk108⟩
          · have ka109 := (Kp.then0 ka99 hk108)
            refine s_y (y_move (v := (.tuple #[(Vi 0), (Vi 0), Vf])) rfl) rfl ?_
            refine s_y (y_ext rfl (v := (Vi 0)) rfl) rfl ?_
            refine s_y (y_ext rfl (v := (Vi 0)) rfl) rfl ?_
            refine s_y (y_ext rfl (v := Vf) rfl) rfl ?_
            refine s_y (y_assign (v := (Vi 0)) rfl) rfl ?_
            refine s_y (y_assign (v := (Vi 0)) rfl) rfl ?_
            refine s_y (y_assign (v := Vf) rfl) rfl ?_
            have hf110 := (hC97.kp hk108 id)
            have hz111 := (nl (nl hk78.size hk82.size) hk91.size)
            have hf112 := (SesIs.k0 hf104 hk108)
            have hz113 := (nl (nl hk13.size hk29.size) hk45.size)
            have hz114 := (nl (nl (nl hz84 hk78.size) hk82.size) hk91.size)
            have kc115 : Kp (fun k => SN g st w k) w26 w44 := (Kp.trans (Kp.refl _ _) hk45 (fun _ _ e => e))
            have kc116 : Kp (fun k => SN g st w k) w26 w68 := (Kp.trans kc115 (SesNx.kp hN70) fun i hi e => (fun e => (fun e => e) (PopI.fp hP9 _ e)) e)
            have kc117 : Kp (fun k => SN g st w k) w26 w76 := (Kp.then0 kc116 hk78)
            have kc118 : Kp (fun k => SN g st w k) w26 w80 := (Kp.fresh kc117 hk82 fun _ e => nl (nl (nl hk45.size (SesNx.kp hN70).size) (Nat.le_refl _)) (Nat.le_of_eq e.symm))
            have kc119 : Kp (fun k => SN g st w k) w26 w89 := (Kp.then0 kc118 hk91)
            have kc120 : Kp (fun k => SN g st w k) w26 w96 := (Kp.then0 kc119 hk98)
            have kc121 : Kp (fun k => SN g st w k) w26 w105 := (Kp.then0 kc120 hk108)
            exact s_nil (hK46 (s69, (some (w89.heap.size, cap94)), (xs ++ [p9.1]), 0, 0, false) _ _ ⟨⟨g100, g101, (Eq.trans g102 (rowq_of (by simp [hr9]) _ _)), rfl, rfl, rfl, trivial⟩, kc121, (show SesIs g s69 w105 from hf112), (show PopI g st w now (xs ++ [p9.1]) s69 from (hP9.step hI9 hz113 hp9 hd9 hmin9 hN70 hl71 hl72)), (show RowP g w.heap.size (some (w89.heap.size, cap94)) (xs ++ [p9.1]) s69 w105 from (show OwnC Session.cs 9 _ w89.heap.size 59 cap94 (xs ++ [p9.1]) ∧ w.heap.size ≤ w89.heap.size ∧ w89.heap.size ∉ sfp g s69 from ⟨(by rw [hr9]; exact hf110), (nl hz114 (Nat.le_refl _)), (SesIs.notin hI74 hz111)⟩)), (show NextV s69.qs 0 0 false from (.inl ⟨hz106, rfl⟩))⟩ (by show s69.l.length < s2.l.length; rw [hl72]; have h9 := cutS_len (SesIs.ids hI9) hp9; omega))
          · have ka122 := (Kp.then0 ka99 hk108)
            refine s_y (y_move (v := (.tuple #[(Vi ((ix s69.qs.l 0).id)), (Vi ((ix s69.qs.l 0).due)), Vt])) rfl) rfl ?_
            refine s_y (y_ext rfl (v := (Vi ((ix s69.qs.l 0).id))) rfl) rfl ?_
            refine s_y (y_ext rfl (v := (Vi ((ix s69.qs.l 0).due))) rfl) rfl ?_
            refine s_y (y_ext rfl (v := Vt) rfl) rfl ?_
            refine s_y (y_assign (v := (Vi ((ix s69.qs.l 0).id))) rfl) rfl ?_
            refine s_y (y_assign (v := (Vi ((ix s69.qs.l 0).due))) rfl) rfl ?_
            refine s_y (y_assign (v := Vt) rfl) rfl ?_
            have hf123 := (hC97.kp hk108 id)
            have hz124 := (nl (nl hk78.size hk82.size) hk91.size)
            have hf125 := (SesIs.k0 hf104 hk108)
            have hz126 := (nl (nl hk13.size hk29.size) hk45.size)
            have hz127 := (nl (nl (nl hz84 hk78.size) hk82.size) hk91.size)
            have kc128 : Kp (fun k => SN g st w k) w26 w44 := (Kp.trans (Kp.refl _ _) hk45 (fun _ _ e => e))
            have kc129 : Kp (fun k => SN g st w k) w26 w68 := (Kp.trans kc128 (SesNx.kp hN70) fun i hi e => (fun e => (fun e => e) (PopI.fp hP9 _ e)) e)
            have kc130 : Kp (fun k => SN g st w k) w26 w76 := (Kp.then0 kc129 hk78)
            have kc131 : Kp (fun k => SN g st w k) w26 w80 := (Kp.fresh kc130 hk82 fun _ e => nl (nl (nl hk45.size (SesNx.kp hN70).size) (Nat.le_refl _)) (Nat.le_of_eq e.symm))
            have kc132 : Kp (fun k => SN g st w k) w26 w89 := (Kp.then0 kc131 hk91)
            have kc133 : Kp (fun k => SN g st w k) w26 w96 := (Kp.then0 kc132 hk98)
            have kc134 : Kp (fun k => SN g st w k) w26 w105 := (Kp.then0 kc133 hk108)
            exact s_nil (hK46 (s69, (some (w89.heap.size, cap94)), (xs ++ [p9.1]), (ix s69.qs.l 0).id, (ix s69.qs.l 0).due, true) _ _ ⟨⟨g100, g101, (Eq.trans g102 (rowq_of (by simp [hr9]) _ _)), rfl, rfl, rfl, trivial⟩, kc134, (show SesIs g s69 w105 from hf125), (show PopI g st w now (xs ++ [p9.1]) s69 from (hP9.step hI9 hz126 hp9 hd9 hmin9 hN70 hl71 hl72)), (show RowP g w.heap.size (some (w89.heap.size, cap94)) (xs ++ [p9.1]) s69 w105 from (show OwnC Session.cs 9 _ w89.heap.size 59 cap94 (xs ++ [p9.1]) ∧ w.heap.size ≤ w89.heap.size ∧ w89.heap.size ∉ sfp g s69 from ⟨(by rw [hr9]; exact hf123), (nl hz127 (Nat.le_refl _)), (SesIs.notin hI74 hz124)⟩)), (show NextV s69.qs ((ix s69.qs.l 0).id) ((ix s69.qs.l 0).due) true from (.inr ⟨hz107, rfl, rfl, rfl⟩))⟩ (by show s69.l.length < s2.l.length; rw [hl72]; have h9 := cutS_len (SesIs.ids hI9) hp9; omega))
        | some p =>
          obtain ⟨rb, cap⟩ := p
          have hr9 : OwnC Session.cs 9 w44 rb 59 cap xs ∧ w.heap.size ≤ rb ∧ rb ∉ sfp g s2 := hi49
          refine skip (hK53 _ _ (genC [(0, (Vp g.tb 0)), (1, (Vi now)), (5, (.slice (some ⟨rb, 0, none⟩) xs.length cap)), (6, (Vi (p9.1.id)))] ⟨g56, g57, g58, (Eq.trans g59 (congrArg (Value.int .i64) hpi9.symm)), trivial⟩ ?_))
          clear hK53; rintro E ⟨g135, g136, g137, g138, -⟩
          refine seq fun K139 hK139 => ?_
          refine block ?_
          refine seq fun K140 hK140 => ?_
          refine reg ?_
          refine s_y (y_move (v := (Vp g.tb 0)) g135) rfl ?_
          refine s_y (y_move (v := (Vi (p9.1.id))) g138) rfl ?_
          refine s_e (e_call ca29 (args := [(Vp g.tb 0), (Vi (p9.1.id))]) rfl (sdrop_some ok hI9 hp9 (hP9.key hu hp9) (hr _ (hP9.sub.subset hp9)).1 (hr _ (hP9.sub.subset hp9)).2)) rfl ?_
          rintro _ w141 ⟨s142, hN143, rfl, hl144, hl145⟩
          have ka146 := (Kp.trans ka51 (SesNx.kp hN143) fun i hi e => (fun e => (fun e => e) (PopI.fp hP9 _ e)) e)
          have hI147 := SesNx.is hN143
          have hnr148 := SesNx.nin hN143 hr9.2.2 (hr9.1.lt)
          have hb149 := SesIs.blk hI147
          refine s_y (y_move (v := (.tuple #[(sv p9.1), (Vi 0)])) rfl) rfl ?_
          refine s_y (y_ext rfl (v := (sv p9.1)) rfl) rfl ?_
          refine s_y (y_ext rfl (v := (Vi 0)) rfl) rfl ?_
          refine s_e (e_alloc ze59) rfl ?_
          rintro _ w150 ⟨rfl, hb151, hk152⟩
          have ka153 := (Kp.then0 ka146 hk152)
          refine s_e0 (e_storeV (cs' := p9.1.cs.toArray) p9.1.cs rfl (v := (sv p9.1)) rfl rfl sz59 hb151 rfl rfl rfl) ?_
          rintro _ w154 ⟨hb155, hk156⟩
          have hz158 := (nl (nl (nl hk13.size hk29.size) hk45.size) (SesNx.kp hN143).size)
          have ka157 := (Kp.fresh ka153 hk156 fun _ e => nl (nl hz158 (Nat.le_refl _)) (Nat.le_of_eq e.symm))
          refine s_y (y_assign (v := (Vi 0)) rfl) rfl ?_
          refine s_nil (hK140 _ _ (genC [(0, (Vp g.tb 0)), (1, (Vi now)), (5, (.slice (some ⟨rb, 0, none⟩) xs.length cap)), (9, (Vp w141.heap.size 0))] ⟨g135, g136, g137, rfl, trivial⟩ ?_))
          clear hK140; rintro E ⟨g159, g160, g161, g162, -⟩
          refine reg ?_
          refine s_y (y_move (v := (.slice (some ⟨rb, 0, none⟩) xs.length cap)) g161) rfl ?_
          refine s_y (y_load (v := (sv p9.1)) g162 (rd_agg (vs := p9.1.cs) ag59 (On.now hb155) (by kernel_rfl) rfl)) rfl ?_
          refine s_e (e_buildSlice (cs := p9.1.cs.toArray) (e := 59) (vs := [(0, (sv p9.1))]) rfl (fun _ => by kernel_rfl)) rfl ?_
          rintro _ w163 ⟨rfl, hb164, hk165⟩
          have ka166 := (Kp.then0 ka157 hk165)
          have hel167 : Elts Session.cs 9 w163 w154.heap.size 0 [p9.1] := Own.all (T := 59) ⟨hb164, fun _ => rfl⟩
          have hf170 := ((((hr9.1.kp (SesNx.kp hN143) hr9.2.2).kp hk152 id).kp hk156 (Nat.ne_of_lt (nt (nt (hr9.1.lt) (SesNx.kp hN143).size) (Nat.le_refl _)))).kp hk165 id)
          refine s_e (e_appendC (k := xs.length + 1) so63 ti59 rfl (by decide) rfl rfl hf170 rfl rfl hel167 one_session (by have h9 := (pop_len hP9 hc hp9); simp only [List.length_singleton]; omega) (by have h9 := (pop_len hP9 hc hp9); simp only [List.length_singleton]; unfold maxLen; omega) (by simp) (by first | rfl | (simp only [List.length_singleton]; have h9 := rfl; omega))) rfl ?_
          rintro _ w171 ⟨gb169, cap168, rfl, hC172, rfl | rfl, hk173⟩
          · have ka174 := (Kp.fresh ka166 hk173 fun _ e => nl (nl (Nat.le_refl _) hr9.2.1) (Nat.le_of_eq e.symm))
            refine s_y (y_assign (v := (.slice (some ⟨rb, 0, none⟩) (xs.length + 1) cap168)) rfl) rfl ?_
            refine s_nil (hK139 _ _ (genC [(0, (Vp g.tb 0)), (1, (Vi now)), (5, (.slice (some ⟨rb, 0, none⟩) (xs.length + 1) cap168))] ⟨g159, g160, rfl, trivial⟩ ?_))
            clear hK139; rintro E ⟨g175, g176, g177, -⟩
            refine reg ?_
            refine s_y (y_move (v := (Vp g.tb 0)) g175) rfl ?_
            refine s_y (y_nil rfl) rfl ?_
            refine s_y (y_fld fo115_4 rfl) rfl ?_
            have hb178 := (hk173.get (hk165.get0 (hk156.get (hk152.get0 hb149) (Nat.ne_of_lt (nt (lt_of_get hb149) (Nat.le_refl _))))) (Nat.ne_of_lt (nt (lt_of_get hb0) hr9.2.1)))
            refine s_y (y_load (v := (Vp g.q.qb 0)) rfl (rd_sc sc111 (On.now hb178) rfl)) rfl ?_
            have hf179 := (SesIs.kp (SesIs.k0 (SesIs.kp (SesIs.k0 hI147 hk152) hk156 (fun b hb => (fun e => (fun e => Nat.lt_irrefl _ (nt (SesIs.lt hI147 _ e) (nl (Nat.le_refl _) (Nat.le_refl _)))) (e ▸ hb))) (Nat.ne_of_lt (nt (nt (hT0.lt) hz158) (Nat.le_refl _)))) hk165) hk173 (fun b hb => (fun e => hnr148 (e ▸ hb))) (Nat.ne_of_lt (nt (hT0.lt) hr9.2.1)))
            refine s_e (e_call ca67 (args := [(Vp g.q.qb 0)]) rfl (qnext_spec (SesIs.q hf179))) rfl ?_
            rintro _ w180 ⟨⟨hz181, rfl⟩ | ⟨hz182, rfl⟩, hk183⟩
            · have ka184 := (Kp.then0 ka174 hk183)
              refine s_y (y_move (v := (.tuple #[(Vi 0), (Vi 0), Vf])) rfl) rfl ?_
              refine s_y (y_ext rfl (v := (Vi 0)) rfl) rfl ?_
              refine s_y (y_ext rfl (v := (Vi 0)) rfl) rfl ?_
              refine s_y (y_ext rfl (v := Vf) rfl) rfl ?_
              refine s_y (y_assign (v := (Vi 0)) rfl) rfl ?_
              refine s_y (y_assign (v := (Vi 0)) rfl) rfl ?_
              refine s_y (y_assign (v := Vf) rfl) rfl ?_
              have hf185 := (hC172.kp hk183 id)
              have hf186 := (SesIs.k0 hf179 hk183)
              have hz187 := (nl (nl hk13.size hk29.size) hk45.size)
              have kc188 : Kp (fun k => SN g st w k) w26 w44 := (Kp.trans (Kp.refl _ _) hk45 (fun _ _ e => e))
              have kc189 : Kp (fun k => SN g st w k) w26 w141 := (Kp.trans kc188 (SesNx.kp hN143) fun i hi e => (fun e => (fun e => e) (PopI.fp hP9 _ e)) e)
              have kc190 : Kp (fun k => SN g st w k) w26 w150 := (Kp.then0 kc189 hk152)
              have kc191 : Kp (fun k => SN g st w k) w26 w154 := (Kp.fresh kc190 hk156 fun _ e => nl (nl (nl hk45.size (SesNx.kp hN143).size) (Nat.le_refl _)) (Nat.le_of_eq e.symm))
              have kc192 : Kp (fun k => SN g st w k) w26 w163 := (Kp.then0 kc191 hk165)
              have kc193 : Kp (fun k => SN g st w k) w26 w171 := (Kp.trans kc192 hk173 fun i hi e => (fun e => (fun e => e) (Or.inr (nl (nl (Nat.le_refl _) hr9.2.1) (Nat.le_of_eq e.symm)))) e)
              have kc194 : Kp (fun k => SN g st w k) w26 w180 := (Kp.then0 kc193 hk183)
              exact s_nil (hK46 (s142, (some (rb, cap168)), (xs ++ [p9.1]), 0, 0, false) _ _ ⟨⟨g175, g176, (Eq.trans g177 (rowq_of (by simp) _ _)), rfl, rfl, rfl, trivial⟩, kc194, (show SesIs g s142 w180 from hf186), (show PopI g st w now (xs ++ [p9.1]) s142 from (hP9.step hI9 hz187 hp9 hd9 hmin9 hN143 hl144 hl145)), (show RowP g w.heap.size (some (rb, cap168)) (xs ++ [p9.1]) s142 w180 from (show OwnC Session.cs 9 _ rb 59 cap168 (xs ++ [p9.1]) ∧ w.heap.size ≤ rb ∧ rb ∉ sfp g s142 from ⟨hf185, (nl (Nat.le_refl _) hr9.2.1), hnr148⟩)), (show NextV s142.qs 0 0 false from (.inl ⟨hz181, rfl⟩))⟩ (by show s142.l.length < s2.l.length; rw [hl145]; have h9 := cutS_len (SesIs.ids hI9) hp9; omega))
            · have ka195 := (Kp.then0 ka174 hk183)
              refine s_y (y_move (v := (.tuple #[(Vi ((ix s142.qs.l 0).id)), (Vi ((ix s142.qs.l 0).due)), Vt])) rfl) rfl ?_
              refine s_y (y_ext rfl (v := (Vi ((ix s142.qs.l 0).id))) rfl) rfl ?_
              refine s_y (y_ext rfl (v := (Vi ((ix s142.qs.l 0).due))) rfl) rfl ?_
              refine s_y (y_ext rfl (v := Vt) rfl) rfl ?_
              refine s_y (y_assign (v := (Vi ((ix s142.qs.l 0).id))) rfl) rfl ?_
              refine s_y (y_assign (v := (Vi ((ix s142.qs.l 0).due))) rfl) rfl ?_
              refine s_y (y_assign (v := Vt) rfl) rfl ?_
              have hf196 := (hC172.kp hk183 id)
              have hf197 := (SesIs.k0 hf179 hk183)
              have hz198 := (nl (nl hk13.size hk29.size) hk45.size)
              have kc199 : Kp (fun k => SN g st w k) w26 w44 := (Kp.trans (Kp.refl _ _) hk45 (fun _ _ e => e))
              have kc200 : Kp (fun k => SN g st w k) w26 w141 := (Kp.trans kc199 (SesNx.kp hN143) fun i hi e => (fun e => (fun e => e) (PopI.fp hP9 _ e)) e)
              have kc201 : Kp (fun k => SN g st w k) w26 w150 := (Kp.then0 kc200 hk152)
              have kc202 : Kp (fun k => SN g st w k) w26 w154 := (Kp.fresh kc201 hk156 fun _ e => nl (nl (nl hk45.size (SesNx.kp hN143).size) (Nat.le_refl _)) (Nat.le_of_eq e.symm))
              have kc203 : Kp (fun k => SN g st w k) w26 w163 := (Kp.then0 kc202 hk165)
              have kc204 : Kp (fun k => SN g st w k) w26 w171 := (Kp.trans kc203 hk173 fun i hi e => (fun e => (fun e => e) (Or.inr (nl (nl (Nat.le_refl _) hr9.2.1) (Nat.le_of_eq e.symm)))) e)
              have kc205 : Kp (fun k => SN g st w k) w26 w180 := (Kp.then0 kc204 hk183)
              exact s_nil (hK46 (s142, (some (rb, cap168)), (xs ++ [p9.1]), (ix s142.qs.l 0).id, (ix s142.qs.l 0).due, true) _ _ ⟨⟨g175, g176, (Eq.trans g177 (rowq_of (by simp) _ _)), rfl, rfl, rfl, trivial⟩, kc205, (show SesIs g s142 w180 from hf197), (show PopI g st w now (xs ++ [p9.1]) s142 from (hP9.step hI9 hz198 hp9 hd9 hmin9 hN143 hl144 hl145)), (show RowP g w.heap.size (some (rb, cap168)) (xs ++ [p9.1]) s142 w180 from (show OwnC Session.cs 9 _ rb 59 cap168 (xs ++ [p9.1]) ∧ w.heap.size ≤ rb ∧ rb ∉ sfp g s142 from ⟨hf196, (nl (Nat.le_refl _) hr9.2.1), hnr148⟩)), (show NextV s142.qs ((ix s142.qs.l 0).id) ((ix s142.qs.l 0).due) true from (.inr ⟨hz182, rfl, rfl, rfl⟩))⟩ (by show s142.l.length < s2.l.length; rw [hl145]; have h9 := cutS_len (SesIs.ids hI9) hp9; omega))
          · have ka206 := (Kp.fresh ka166 hk173 fun _ e => nl (nl (Nat.le_refl _) hr9.2.1) (Nat.le_of_eq e.symm))
            refine s_y (y_assign (v := (.slice (some ⟨w163.heap.size, 0, none⟩) (xs.length + 1) cap168)) rfl) rfl ?_
            refine s_nil (hK139 _ _ (genC [(0, (Vp g.tb 0)), (1, (Vi now)), (5, (.slice (some ⟨w163.heap.size, 0, none⟩) (xs.length + 1) cap168))] ⟨g159, g160, rfl, trivial⟩ ?_))
            clear hK139; rintro E ⟨g207, g208, g209, -⟩
            refine reg ?_
            refine s_y (y_move (v := (Vp g.tb 0)) g207) rfl ?_
            refine s_y (y_nil rfl) rfl ?_
            refine s_y (y_fld fo115_4 rfl) rfl ?_
            have hb210 := (hk173.get (hk165.get0 (hk156.get (hk152.get0 hb149) (Nat.ne_of_lt (nt (lt_of_get hb149) (Nat.le_refl _))))) (Nat.ne_of_lt (nt (lt_of_get hb0) hr9.2.1)))
            refine s_y (y_load (v := (Vp g.q.qb 0)) rfl (rd_sc sc111 (On.now hb210) rfl)) rfl ?_
            have hf211 := (SesIs.kp (SesIs.k0 (SesIs.kp (SesIs.k0 hI147 hk152) hk156 (fun b hb => (fun e => (fun e => Nat.lt_irrefl _ (nt (SesIs.lt hI147 _ e) (nl (Nat.le_refl _) (Nat.le_refl _)))) (e ▸ hb))) (Nat.ne_of_lt (nt (nt (hT0.lt) hz158) (Nat.le_refl _)))) hk165) hk173 (fun b hb => (fun e => hnr148 (e ▸ hb))) (Nat.ne_of_lt (nt (hT0.lt) hr9.2.1)))
            refine s_e (e_call ca67 (args := [(Vp g.q.qb 0)]) rfl (qnext_spec (SesIs.q hf211))) rfl ?_
            rintro _ w212 ⟨⟨hz213, rfl⟩ | ⟨hz214, rfl⟩, hk215⟩
            · have ka216 := (Kp.then0 ka206 hk215)
              refine s_y (y_move (v := (.tuple #[(Vi 0), (Vi 0), Vf])) rfl) rfl ?_
              refine s_y (y_ext rfl (v := (Vi 0)) rfl) rfl ?_
              refine s_y (y_ext rfl (v := (Vi 0)) rfl) rfl ?_
              refine s_y (y_ext rfl (v := Vf) rfl) rfl ?_
              refine s_y (y_assign (v := (Vi 0)) rfl) rfl ?_
              refine s_y (y_assign (v := (Vi 0)) rfl) rfl ?_
              refine s_y (y_assign (v := Vf) rfl) rfl ?_
              have hf217 := (hC172.kp hk215 id)
              have hz218 := (nl (nl hk152.size hk156.size) hk165.size)
              have hf219 := (SesIs.k0 hf211 hk215)
              have hz220 := (nl (nl hk13.size hk29.size) hk45.size)
              have hz221 := (nl (nl (nl hz158 hk152.size) hk156.size) hk165.size)
              have kc222 : Kp (fun k => SN g st w k) w26 w44 := (Kp.trans (Kp.refl _ _) hk45 (fun _ _ e => e))
              have kc223 : Kp (fun k => SN g st w k) w26 w141 := (Kp.trans kc222 (SesNx.kp hN143) fun i hi e => (fun e => (fun e => e) (PopI.fp hP9 _ e)) e)
              have kc224 : Kp (fun k => SN g st w k) w26 w150 := (Kp.then0 kc223 hk152)
              have kc225 : Kp (fun k => SN g st w k) w26 w154 := (Kp.fresh kc224 hk156 fun _ e => nl (nl (nl hk45.size (SesNx.kp hN143).size) (Nat.le_refl _)) (Nat.le_of_eq e.symm))
              have kc226 : Kp (fun k => SN g st w k) w26 w163 := (Kp.then0 kc225 hk165)
              have kc227 : Kp (fun k => SN g st w k) w26 w171 := (Kp.trans kc226 hk173 fun i hi e => (fun e => (fun e => e) (Or.inr (nl (nl (Nat.le_refl _) hr9.2.1) (Nat.le_of_eq e.symm)))) e)
              have kc228 : Kp (fun k => SN g st w k) w26 w212 := (Kp.then0 kc227 hk215)
              exact s_nil (hK46 (s142, (some (w163.heap.size, cap168)), (xs ++ [p9.1]), 0, 0, false) _ _ ⟨⟨g207, g208, (Eq.trans g209 (rowq_of (by simp) _ _)), rfl, rfl, rfl, trivial⟩, kc228, (show SesIs g s142 w212 from hf219), (show PopI g st w now (xs ++ [p9.1]) s142 from (hP9.step hI9 hz220 hp9 hd9 hmin9 hN143 hl144 hl145)), (show RowP g w.heap.size (some (w163.heap.size, cap168)) (xs ++ [p9.1]) s142 w212 from (show OwnC Session.cs 9 _ w163.heap.size 59 cap168 (xs ++ [p9.1]) ∧ w.heap.size ≤ w163.heap.size ∧ w163.heap.size ∉ sfp g s142 from ⟨hf217, (nl hz221 (Nat.le_refl _)), (SesIs.notin hI147 hz218)⟩)), (show NextV s142.qs 0 0 false from (.inl ⟨hz213, rfl⟩))⟩ (by show s142.l.length < s2.l.length; rw [hl145]; have h9 := cutS_len (SesIs.ids hI9) hp9; omega))
            · have ka229 := (Kp.then0 ka206 hk215)
              refine s_y (y_move (v := (.tuple #[(Vi ((ix s142.qs.l 0).id)), (Vi ((ix s142.qs.l 0).due)), Vt])) rfl) rfl ?_
              refine s_y (y_ext rfl (v := (Vi ((ix s142.qs.l 0).id))) rfl) rfl ?_
              refine s_y (y_ext rfl (v := (Vi ((ix s142.qs.l 0).due))) rfl) rfl ?_
              refine s_y (y_ext rfl (v := Vt) rfl) rfl ?_
              refine s_y (y_assign (v := (Vi ((ix s142.qs.l 0).id))) rfl) rfl ?_
              refine s_y (y_assign (v := (Vi ((ix s142.qs.l 0).due))) rfl) rfl ?_
              refine s_y (y_assign (v := Vt) rfl) rfl ?_
              have hf230 := (hC172.kp hk215 id)
              have hz231 := (nl (nl hk152.size hk156.size) hk165.size)
              have hf232 := (SesIs.k0 hf211 hk215)
              have hz233 := (nl (nl hk13.size hk29.size) hk45.size)
              have hz234 := (nl (nl (nl hz158 hk152.size) hk156.size) hk165.size)
              have kc235 : Kp (fun k => SN g st w k) w26 w44 := (Kp.trans (Kp.refl _ _) hk45 (fun _ _ e => e))
              have kc236 : Kp (fun k => SN g st w k) w26 w141 := (Kp.trans kc235 (SesNx.kp hN143) fun i hi e => (fun e => (fun e => e) (PopI.fp hP9 _ e)) e)
              have kc237 : Kp (fun k => SN g st w k) w26 w150 := (Kp.then0 kc236 hk152)
              have kc238 : Kp (fun k => SN g st w k) w26 w154 := (Kp.fresh kc237 hk156 fun _ e => nl (nl (nl hk45.size (SesNx.kp hN143).size) (Nat.le_refl _)) (Nat.le_of_eq e.symm))
              have kc239 : Kp (fun k => SN g st w k) w26 w163 := (Kp.then0 kc238 hk165)
              have kc240 : Kp (fun k => SN g st w k) w26 w171 := (Kp.trans kc239 hk173 fun i hi e => (fun e => (fun e => e) (Or.inr (nl (nl (Nat.le_refl _) hr9.2.1) (Nat.le_of_eq e.symm)))) e)
              have kc241 : Kp (fun k => SN g st w k) w26 w212 := (Kp.then0 kc240 hk215)
              exact s_nil (hK46 (s142, (some (w163.heap.size, cap168)), (xs ++ [p9.1]), (ix s142.qs.l 0).id, (ix s142.qs.l 0).due, true) _ _ ⟨⟨g207, g208, (Eq.trans g209 (rowq_of (by simp) _ _)), rfl, rfl, rfl, trivial⟩, kc241, (show SesIs g s142 w212 from hf232), (show PopI g st w now (xs ++ [p9.1]) s142 from (hP9.step hI9 hz233 hp9 hd9 hmin9 hN143 hl144 hl145)), (show RowP g w.heap.size (some (w163.heap.size, cap168)) (xs ++ [p9.1]) s142 w212 from (show OwnC Session.cs 9 _ w163.heap.size 59 cap168 (xs ++ [p9.1]) ∧ w.heap.size ≤ w163.heap.size ∧ w163.heap.size ∉ sfp g s142 from ⟨hf230, (nl hz234 (Nat.le_refl _)), (SesIs.notin hI147 hz231)⟩)), (show NextV s142.qs ((ix s142.qs.l 0).id) ((ix s142.qs.l 0).due) true from (.inr ⟨hz214, rfl, rfl, rfl⟩))⟩ (by show s142.l.length < s2.l.length; rw [hl145]; have h9 := cutS_len (SesIs.ids hI9) hp9; omega))
      · refine exit (hK22 _ _ (genC [(5, (rowq r xs))] ⟨g58, trivial⟩ ?_))
        clear hK22; rintro E ⟨g242, -⟩
        refine seq fun K243 hK243 => ?_
        refine reg ?_
        refine s_y (y_move (v := (rowq r xs)) g242) rfl ?_
        refine s_y (y_assign (v := (rowq r xs)) rfl) rfl ?_
        refine s_nil (hK243 _ _ (genC [(4, (rowq r xs))] ⟨rfl, trivial⟩ ?_))
        clear hK243; rintro E ⟨g244, -⟩
        refine ret (hret _ _ [(rowq r xs)] ⟨g244, trivial⟩ ?_)
        exact ⟨s2, xs, ⟨hI9, ka51.mono (fun b hb e => e.elim id fun e => absurd hb (Nat.not_lt.2 e)), hP9.fp⟩, hP9, next_end hI9 hn9 (fun h9 => c61 h9.2), RowP.sesV hi49⟩
    · refine s_no (.no rfl (c := false) (congrArg Value.bool c55) rfl) rfl ?_
      refine s_no (.no rfl (c := false) (congrArg Value.bool c55) rfl) rfl ?_
      refine s_no (.no rfl (c := false) (congrArg Value.bool c55) rfl) rfl ?_
      refine s_y (y_pick_f (congrArg Value.bool c55) (v := Vf) rfl) rfl ?_
      refine s_nil (hK54 _ _ (genC [(0, (Vp g.tb 0)), (1, (Vi now)), (5, (rowq r xs)), (6, (Vi i)), (27, Vf)] ⟨g38, g39, g40, g41, rfl, trivial⟩ ?_))
      clear hK54; rintro E ⟨g245, g246, g247, g248, g249, -⟩
      refine cond_f g249 ?_
      refine exit (hK22 _ _ (genC [(5, (rowq r xs))] ⟨g247, trivial⟩ ?_))
      clear hK22; rintro E ⟨g250, -⟩
      refine seq fun K251 hK251 => ?_
      refine reg ?_
      refine s_y (y_move (v := (rowq r xs)) g250) rfl ?_
      refine s_y (y_assign (v := (rowq r xs)) rfl) rfl ?_
      refine s_nil (hK251 _ _ (genC [(4, (rowq r xs))] ⟨rfl, trivial⟩ ?_))
      clear hK251; rintro E ⟨g252, -⟩
      refine ret (hret _ _ [(rowq r xs)] ⟨g252, trivial⟩ ?_)
      exact ⟨s2, xs, ⟨hI9, ka51.mono (fun b hb e => e.elim id fun e => absurd hb (Nat.not_lt.2 e)), hP9.fp⟩, hP9, next_end hI9 hn9 (fun h9 => by rw [c55] at h9; cases h9.1), RowP.sesV hi49⟩
  · have ka253 := (Kp.then0 ka14 hk29)
    refine s_y (y_move (v := (.tuple #[(Vi ((ix st.qs.l 0).id)), (Vi ((ix st.qs.l 0).due)), Vt])) rfl) rfl ?_
    refine s_y (y_ext rfl (v := (Vi ((ix st.qs.l 0).id))) rfl) rfl ?_
    refine s_y (y_ext rfl (v := (Vi ((ix st.qs.l 0).due))) rfl) rfl ?_
    refine s_y (y_ext rfl (v := Vt) rfl) rfl ?_
    refine s_y (y_assign (v := (Vi ((ix st.qs.l 0).id))) rfl) rfl ?_
    refine s_y (y_assign (v := (Vi ((ix st.qs.l 0).due))) rfl) rfl ?_
    refine s_y (y_assign (v := Vt) rfl) rfl ?_
    refine s_nil (hK23 _ _ (genC [(0, (Vp g.tb 0)), (1, (Vi now)), (5, (.slice none 0 0)), (6, (Vi ((ix st.qs.l 0).id))), (7, (Vi ((ix st.qs.l 0).due))), (8, Vt)] ⟨g19, g20, g21, rfl, rfl, rfl, trivial⟩ ?_))
    clear hK23; rintro E ⟨g254, g255, g256, g257, g258, g259, -⟩
    refine block ?_
    have hf260 := (SesIs.k0 hf25 hk29)
    refine loopG (X := SesS × Option (Nat × Nat) × List Session × Int × Int × Bool) (fun q_ E w_ => Has E [(0, (Vp g.tb 0)), (1, (Vi now)), (5, (rowq q_.2.1 q_.2.2.1)), (6, (Vi (q_.2.2.2.1))), (7, (Vi (q_.2.2.2.2.1))), (8, (.bool (q_.2.2.2.2.2)))] ∧ Kp (fun k => SN g st w k) w26 w_ ∧ (SesIs g q_.1 w_) ∧ (PopI g st w now q_.2.2.1 q_.1) ∧ (RowP g w.heap.size q_.2.1 q_.2.2.1 q_.1 w_) ∧ (NextV q_.1.qs q_.2.2.2.1 q_.2.2.2.2.1 q_.2.2.2.2.2)) (fun q_ => q_.1.l.length) (st, none, [], (ix st.qs.l 0).id, (ix st.qs.l 0).due, true) ⟨⟨g254, g255, g256, g257, g258, g259, trivial⟩, Kp.refl _ _, (show SesIs g st w26 from hf260), (show PopI g st w now ([]) st from PopI.start h now), (show RowP g w.heap.size none ([]) st w26 from rfl), (show NextV st.qs ((ix st.qs.l 0).id) ((ix st.qs.l 0).due) true from (.inr ⟨hz28, rfl, rfl, rfl⟩))⟩ ?_
    rintro ⟨s2, r, xs, i, d, k⟩ E w267 ⟨⟨g261, g262, g263, g264, g265, g266, -⟩, hk268, hi270, hi271, hi272, hi273⟩ K269 hK269
    replace g261 : E 0 = (Vp g.tb 0) := g261
    replace g262 : E 1 = (Vi now) := g262
    replace g263 : E 5 = (rowq r xs) := g263
    replace g264 : E 6 = (Vi i) := g264
    replace g265 : E 7 = (Vi d) := g265
    replace g266 : E 8 = (.bool (k)) := g266
    replace hi270 : SesIs g s2 w267 := hi270
    replace hi271 : PopI g st w now xs s2 := hi271
    replace hi272 : RowP g w.heap.size r xs s2 w267 := hi272
    replace hi273 : NextV s2.qs i d k := hi273
    have ka274 := (Kp.trans ka253 hk268 (fun _ _ e => e))
    have hI9 := hi270; have hP9 := hi271; have hn9 := hi273
    have hb275 := SesIs.blk hI9
    refine seq fun K276 hK276 => ?_
    refine seq fun K277 hK277 => ?_
    refine reg ?_
    refine s_y (y_move (v := (.bool (k))) g266) rfl ?_
    refine s_y (y_move (v := (.bool (k))) rfl) rfl ?_
    refine (Bool.eq_false_or_eq_true (k)).elim (fun c278 => ?_) (fun c278 => ?_)
    · refine s_gy (.yes rfl (congrArg Value.bool c278)) (y_move (v := (Vi d)) g265) rfl ?_
      refine s_gy (.yes rfl (congrArg Value.bool c278)) (y_move (v := (Vi now)) g262) rfl ?_
      refine s_gy (.yes rfl (congrArg Value.bool c278)) (y_leq rfl rfl) rfl ?_
      refine s_y (y_pick_t (congrArg Value.bool c278) (v := (.bool (decide ((d : Int) ≤ now)))) rfl) rfl ?_
      refine s_nil (hK277 _ _ (genC [(0, (Vp g.tb 0)), (1, (Vi now)), (5, (rowq r xs)), (6, (Vi i)), (27, (.bool (decide ((d : Int) ≤ now))))] ⟨g261, g262, g263, g264, rfl, trivial⟩ ?_))
      clear hK277; rintro E ⟨g279, g280, g281, g282, g283, -⟩
      refine cond_d g283 (fun c284 => ?_) (fun c284 => ?_)
      · obtain ⟨p9, hp9, hpi9, hpd9, hmin9⟩ := next_at hI9 hn9 c278; have hd9 : p9.1.due ≤ now := by omega
        cases r with
        | none =>
          have hr9 : xs = [] := hi272
          refine skip (hK276 _ _ (genC [(0, (Vp g.tb 0)), (1, (Vi now)), (5, (.slice none 0 0)), (6, (Vi (p9.1.id)))] ⟨g279, g280, g281, (Eq.trans g282 (congrArg (Value.int .i64) hpi9.symm)), trivial⟩ ?_))
          clear hK276; rintro E ⟨g285, g286, g287, g288, -⟩
          refine seq fun K289 hK289 => ?_
          refine block ?_
          refine seq fun K290 hK290 => ?_
          refine reg ?_
          refine s_y (y_move (v := (Vp g.tb 0)) g285) rfl ?_
          refine s_y (y_move (v := (Vi (p9.1.id))) g288) rfl ?_
          refine s_e (e_call ca29 (args := [(Vp g.tb 0), (Vi (p9.1.id))]) rfl (sdrop_some ok hI9 hp9 (hP9.key hu hp9) (hr _ (hP9.sub.subset hp9)).1 (hr _ (hP9.sub.subset hp9)).2)) rfl ?_
          rintro _ w291 ⟨s292, hN293, rfl, hl294, hl295⟩
          have ka296 := (Kp.trans ka274 (SesNx.kp hN293) fun i hi e => (fun e => (fun e => e) (PopI.fp hP9 _ e)) e)
          have hI297 := SesNx.is hN293
          have hb298 := SesIs.blk hI297
          refine s_y (y_move (v := (.tuple #[(sv p9.1), (Vi 0)])) rfl) rfl ?_
          refine s_y (y_ext rfl (v := (sv p9.1)) rfl) rfl ?_
          refine s_y (y_ext rfl (v := (Vi 0)) rfl) rfl ?_
          refine s_e (e_alloc ze59) rfl ?_
          rintro _ w299 ⟨rfl, hb300, hk301⟩
          have ka302 := (Kp.then0 ka296 hk301)
          refine s_e0 (e_storeV (cs' := p9.1.cs.toArray) p9.1.cs rfl (v := (sv p9.1)) rfl rfl sz59 hb300 rfl rfl rfl) ?_
          rintro _ w303 ⟨hb304, hk305⟩
          have hz307 := (nl (nl (nl hk13.size hk29.size) hk268.size) (SesNx.kp hN293).size)
          have ka306 := (Kp.fresh ka302 hk305 fun _ e => nl (nl hz307 (Nat.le_refl _)) (Nat.le_of_eq e.symm))
          refine s_y (y_assign (v := (Vi 0)) rfl) rfl ?_
          refine s_nil (hK290 _ _ (genC [(0, (Vp g.tb 0)), (1, (Vi now)), (5, (.slice none 0 0)), (9, (Vp w291.heap.size 0))] ⟨g285, g286, g287, rfl, trivial⟩ ?_))
          clear hK290; rintro E ⟨g308, g309, g310, g311, -⟩
          refine reg ?_
          refine s_y (y_move (v := (.slice none 0 0)) g310) rfl ?_
          refine s_y (y_load (v := (sv p9.1)) g311 (rd_agg (vs := p9.1.cs) ag59 (On.now hb304) (by kernel_rfl) rfl)) rfl ?_
          refine s_e (e_buildSlice (cs := p9.1.cs.toArray) (e := 59) (vs := [(0, (sv p9.1))]) rfl (fun _ => by kernel_rfl)) rfl ?_
          rintro _ w312 ⟨rfl, hb313, hk314⟩
          have ka315 := (Kp.then0 ka306 hk314)
          have hel316 : Elts Session.cs 9 w312 w303.heap.size 0 [p9.1] := Own.all (T := 59) ⟨hb313, fun _ => rfl⟩
          refine s_e (e_append0 so63 ti59 rfl (by decide) (fun _ => rfl) rfl rfl rfl hel316 one_session (by simp) (by simp [maxLen]) (by simp)) rfl ?_
          rintro _ w319 ⟨gb318, cap317, rfl, hC320, rfl, hk321⟩
          have ka322 := (Kp.then0 ka315 hk321)
          refine s_y (y_assign (v := (.slice (some ⟨w312.heap.size, 0, none⟩) 1 cap317)) rfl) rfl ?_
          refine s_nil (hK289 _ _ (genC [(0, (Vp g.tb 0)), (1, (Vi now)), (5, (.slice (some ⟨w312.heap.size, 0, none⟩) 1 cap317))] ⟨g308, g309, rfl, trivial⟩ ?_))
          clear hK289; rintro E ⟨g323, g324, g325, -⟩
          refine reg ?_
          refine s_y (y_move (v := (Vp g.tb 0)) g323) rfl ?_
          refine s_y (y_nil rfl) rfl ?_
          refine s_y (y_fld fo115_4 rfl) rfl ?_
          have hb326 := (hk321.get0 (hk314.get0 (hk305.get (hk301.get0 hb298) (Nat.ne_of_lt (nt (lt_of_get hb298) (Nat.le_refl _))))))
          refine s_y (y_load (v := (Vp g.q.qb 0)) rfl (rd_sc sc111 (On.now hb326) rfl)) rfl ?_
          have hf327 := (SesIs.k0 (SesIs.k0 (SesIs.kp (SesIs.k0 hI297 hk301) hk305 (fun b hb => (fun e => (fun e => Nat.lt_irrefl _ (nt (SesIs.lt hI297 _ e) (nl (Nat.le_refl _) (Nat.le_refl _)))) (e ▸ hb))) (Nat.ne_of_lt (nt (nt (hT0.lt) hz307) (Nat.le_refl _)))) hk314) hk321)
          refine s_e (e_call ca67 (args := [(Vp g.q.qb 0)]) rfl (qnext_spec (SesIs.q hf327))) rfl ?_
          rintro _ w328 ⟨⟨hz329, rfl⟩ | ⟨hz330, rfl⟩, hk331⟩
          · have ka332 := (Kp.then0 ka322 hk331)
            refine s_y (y_move (v := (.tuple #[(Vi 0), (Vi 0), Vf])) rfl) rfl ?_
            refine s_y (y_ext rfl (v := (Vi 0)) rfl) rfl ?_
            refine s_y (y_ext rfl (v := (Vi 0)) rfl) rfl ?_
            refine s_y (y_ext rfl (v := Vf) rfl) rfl ?_
            refine s_y (y_assign (v := (Vi 0)) rfl) rfl ?_
            refine s_y (y_assign (v := (Vi 0)) rfl) rfl ?_
            refine s_y (y_assign (v := Vf) rfl) rfl ?_
            have hf333 := (hC320.kp hk331 id)
            have hz334 := (nl (nl hk301.size hk305.size) hk314.size)
            have hf335 := (SesIs.k0 hf327 hk331)
            have hz336 := (nl (nl hk13.size hk29.size) hk268.size)
            have hz337 := (nl (nl (nl hz307 hk301.size) hk305.size) hk314.size)
            have kc338 : Kp (fun k => SN g st w k) w26 w267 := (Kp.trans (Kp.refl _ _) hk268 (fun _ _ e => e))
            have kc339 : Kp (fun k => SN g st w k) w26 w291 := (Kp.trans kc338 (SesNx.kp hN293) fun i hi e => (fun e => (fun e => e) (PopI.fp hP9 _ e)) e)
            have kc340 : Kp (fun k => SN g st w k) w26 w299 := (Kp.then0 kc339 hk301)
            have kc341 : Kp (fun k => SN g st w k) w26 w303 := (Kp.fresh kc340 hk305 fun _ e => nl (nl (nl hk268.size (SesNx.kp hN293).size) (Nat.le_refl _)) (Nat.le_of_eq e.symm))
            have kc342 : Kp (fun k => SN g st w k) w26 w312 := (Kp.then0 kc341 hk314)
            have kc343 : Kp (fun k => SN g st w k) w26 w319 := (Kp.then0 kc342 hk321)
            have kc344 : Kp (fun k => SN g st w k) w26 w328 := (Kp.then0 kc343 hk331)
            exact s_nil (hK269 (s292, (some (w312.heap.size, cap317)), (xs ++ [p9.1]), 0, 0, false) _ _ ⟨⟨g323, g324, (Eq.trans g325 (rowq_of (by simp [hr9]) _ _)), rfl, rfl, rfl, trivial⟩, kc344, (show SesIs g s292 w328 from hf335), (show PopI g st w now (xs ++ [p9.1]) s292 from (hP9.step hI9 hz336 hp9 hd9 hmin9 hN293 hl294 hl295)), (show RowP g w.heap.size (some (w312.heap.size, cap317)) (xs ++ [p9.1]) s292 w328 from (show OwnC Session.cs 9 _ w312.heap.size 59 cap317 (xs ++ [p9.1]) ∧ w.heap.size ≤ w312.heap.size ∧ w312.heap.size ∉ sfp g s292 from ⟨(by rw [hr9]; exact hf333), (nl hz337 (Nat.le_refl _)), (SesIs.notin hI297 hz334)⟩)), (show NextV s292.qs 0 0 false from (.inl ⟨hz329, rfl⟩))⟩ (by show s292.l.length < s2.l.length; rw [hl295]; have h9 := cutS_len (SesIs.ids hI9) hp9; omega))
          · have ka345 := (Kp.then0 ka322 hk331)
            refine s_y (y_move (v := (.tuple #[(Vi ((ix s292.qs.l 0).id)), (Vi ((ix s292.qs.l 0).due)), Vt])) rfl) rfl ?_
            refine s_y (y_ext rfl (v := (Vi ((ix s292.qs.l 0).id))) rfl) rfl ?_
            refine s_y (y_ext rfl (v := (Vi ((ix s292.qs.l 0).due))) rfl) rfl ?_
            refine s_y (y_ext rfl (v := Vt) rfl) rfl ?_
            refine s_y (y_assign (v := (Vi ((ix s292.qs.l 0).id))) rfl) rfl ?_
            refine s_y (y_assign (v := (Vi ((ix s292.qs.l 0).due))) rfl) rfl ?_
            refine s_y (y_assign (v := Vt) rfl) rfl ?_
            have hf346 := (hC320.kp hk331 id)
            have hz347 := (nl (nl hk301.size hk305.size) hk314.size)
            have hf348 := (SesIs.k0 hf327 hk331)
            have hz349 := (nl (nl hk13.size hk29.size) hk268.size)
            have hz350 := (nl (nl (nl hz307 hk301.size) hk305.size) hk314.size)
            have kc351 : Kp (fun k => SN g st w k) w26 w267 := (Kp.trans (Kp.refl _ _) hk268 (fun _ _ e => e))
            have kc352 : Kp (fun k => SN g st w k) w26 w291 := (Kp.trans kc351 (SesNx.kp hN293) fun i hi e => (fun e => (fun e => e) (PopI.fp hP9 _ e)) e)
            have kc353 : Kp (fun k => SN g st w k) w26 w299 := (Kp.then0 kc352 hk301)
            have kc354 : Kp (fun k => SN g st w k) w26 w303 := (Kp.fresh kc353 hk305 fun _ e => nl (nl (nl hk268.size (SesNx.kp hN293).size) (Nat.le_refl _)) (Nat.le_of_eq e.symm))
            have kc355 : Kp (fun k => SN g st w k) w26 w312 := (Kp.then0 kc354 hk314)
            have kc356 : Kp (fun k => SN g st w k) w26 w319 := (Kp.then0 kc355 hk321)
            have kc357 : Kp (fun k => SN g st w k) w26 w328 := (Kp.then0 kc356 hk331)
            exact s_nil (hK269 (s292, (some (w312.heap.size, cap317)), (xs ++ [p9.1]), (ix s292.qs.l 0).id, (ix s292.qs.l 0).due, true) _ _ ⟨⟨g323, g324, (Eq.trans g325 (rowq_of (by simp [hr9]) _ _)), rfl, rfl, rfl, trivial⟩, kc357, (show SesIs g s292 w328 from hf348), (show PopI g st w now (xs ++ [p9.1]) s292 from (hP9.step hI9 hz349 hp9 hd9 hmin9 hN293 hl294 hl295)), (show RowP g w.heap.size (some (w312.heap.size, cap317)) (xs ++ [p9.1]) s292 w328 from (show OwnC Session.cs 9 _ w312.heap.size 59 cap317 (xs ++ [p9.1]) ∧ w.heap.size ≤ w312.heap.size ∧ w312.heap.size ∉ sfp g s292 from ⟨(by rw [hr9]; exact hf346), (nl hz350 (Nat.le_refl _)), (SesIs.notin hI297 hz347)⟩)), (show NextV s292.qs ((ix s292.qs.l 0).id) ((ix s292.qs.l 0).due) true from (.inr ⟨hz330, rfl, rfl, rfl⟩))⟩ (by show s292.l.length < s2.l.length; rw [hl295]; have h9 := cutS_len (SesIs.ids hI9) hp9; omega))
        | some p =>
          obtain ⟨rb, cap⟩ := p
          have hr9 : OwnC Session.cs 9 w267 rb 59 cap xs ∧ w.heap.size ≤ rb ∧ rb ∉ sfp g s2 := hi272
          refine skip (hK276 _ _ (genC [(0, (Vp g.tb 0)), (1, (Vi now)), (5, (.slice (some ⟨rb, 0, none⟩) xs.length cap)), (6, (Vi (p9.1.id)))] ⟨g279, g280, g281, (Eq.trans g282 (congrArg (Value.int .i64) hpi9.symm)), trivial⟩ ?_))
          clear hK276; rintro E ⟨g358, g359, g360, g361, -⟩
          refine seq fun K362 hK362 => ?_
          refine block ?_
          refine seq fun K363 hK363 => ?_
          refine reg ?_
          refine s_y (y_move (v := (Vp g.tb 0)) g358) rfl ?_
          refine s_y (y_move (v := (Vi (p9.1.id))) g361) rfl ?_
          refine s_e (e_call ca29 (args := [(Vp g.tb 0), (Vi (p9.1.id))]) rfl (sdrop_some ok hI9 hp9 (hP9.key hu hp9) (hr _ (hP9.sub.subset hp9)).1 (hr _ (hP9.sub.subset hp9)).2)) rfl ?_
          rintro _ w364 ⟨s365, hN366, rfl, hl367, hl368⟩
          have ka369 := (Kp.trans ka274 (SesNx.kp hN366) fun i hi e => (fun e => (fun e => e) (PopI.fp hP9 _ e)) e)
          have hI370 := SesNx.is hN366
          have hnr371 := SesNx.nin hN366 hr9.2.2 (hr9.1.lt)
          have hb372 := SesIs.blk hI370
          refine s_y (y_move (v := (.tuple #[(sv p9.1), (Vi 0)])) rfl) rfl ?_
          refine s_y (y_ext rfl (v := (sv p9.1)) rfl) rfl ?_
          refine s_y (y_ext rfl (v := (Vi 0)) rfl) rfl ?_
          refine s_e (e_alloc ze59) rfl ?_
          rintro _ w373 ⟨rfl, hb374, hk375⟩
          have ka376 := (Kp.then0 ka369 hk375)
          refine s_e0 (e_storeV (cs' := p9.1.cs.toArray) p9.1.cs rfl (v := (sv p9.1)) rfl rfl sz59 hb374 rfl rfl rfl) ?_
          rintro _ w377 ⟨hb378, hk379⟩
          have hz381 := (nl (nl (nl hk13.size hk29.size) hk268.size) (SesNx.kp hN366).size)
          have ka380 := (Kp.fresh ka376 hk379 fun _ e => nl (nl hz381 (Nat.le_refl _)) (Nat.le_of_eq e.symm))
          refine s_y (y_assign (v := (Vi 0)) rfl) rfl ?_
          refine s_nil (hK363 _ _ (genC [(0, (Vp g.tb 0)), (1, (Vi now)), (5, (.slice (some ⟨rb, 0, none⟩) xs.length cap)), (9, (Vp w364.heap.size 0))] ⟨g358, g359, g360, rfl, trivial⟩ ?_))
          clear hK363; rintro E ⟨g382, g383, g384, g385, -⟩
          refine reg ?_
          refine s_y (y_move (v := (.slice (some ⟨rb, 0, none⟩) xs.length cap)) g384) rfl ?_
          refine s_y (y_load (v := (sv p9.1)) g385 (rd_agg (vs := p9.1.cs) ag59 (On.now hb378) (by kernel_rfl) rfl)) rfl ?_
          refine s_e (e_buildSlice (cs := p9.1.cs.toArray) (e := 59) (vs := [(0, (sv p9.1))]) rfl (fun _ => by kernel_rfl)) rfl ?_
          rintro _ w386 ⟨rfl, hb387, hk388⟩
          have ka389 := (Kp.then0 ka380 hk388)
          have hel390 : Elts Session.cs 9 w386 w377.heap.size 0 [p9.1] := Own.all (T := 59) ⟨hb387, fun _ => rfl⟩
          have hf393 := ((((hr9.1.kp (SesNx.kp hN366) hr9.2.2).kp hk375 id).kp hk379 (Nat.ne_of_lt (nt (nt (hr9.1.lt) (SesNx.kp hN366).size) (Nat.le_refl _)))).kp hk388 id)
          refine s_e (e_appendC (k := xs.length + 1) so63 ti59 rfl (by decide) rfl rfl hf393 rfl rfl hel390 one_session (by have h9 := (pop_len hP9 hc hp9); simp only [List.length_singleton]; omega) (by have h9 := (pop_len hP9 hc hp9); simp only [List.length_singleton]; unfold maxLen; omega) (by simp) (by first | rfl | (simp only [List.length_singleton]; have h9 := rfl; omega))) rfl ?_
          rintro _ w394 ⟨gb392, cap391, rfl, hC395, rfl | rfl, hk396⟩
          · have ka397 := (Kp.fresh ka389 hk396 fun _ e => nl (nl (Nat.le_refl _) hr9.2.1) (Nat.le_of_eq e.symm))
            refine s_y (y_assign (v := (.slice (some ⟨rb, 0, none⟩) (xs.length + 1) cap391)) rfl) rfl ?_
            refine s_nil (hK362 _ _ (genC [(0, (Vp g.tb 0)), (1, (Vi now)), (5, (.slice (some ⟨rb, 0, none⟩) (xs.length + 1) cap391))] ⟨g382, g383, rfl, trivial⟩ ?_))
            clear hK362; rintro E ⟨g398, g399, g400, -⟩
            refine reg ?_
            refine s_y (y_move (v := (Vp g.tb 0)) g398) rfl ?_
            refine s_y (y_nil rfl) rfl ?_
            refine s_y (y_fld fo115_4 rfl) rfl ?_
            have hb401 := (hk396.get (hk388.get0 (hk379.get (hk375.get0 hb372) (Nat.ne_of_lt (nt (lt_of_get hb372) (Nat.le_refl _))))) (Nat.ne_of_lt (nt (lt_of_get hb0) hr9.2.1)))
            refine s_y (y_load (v := (Vp g.q.qb 0)) rfl (rd_sc sc111 (On.now hb401) rfl)) rfl ?_
            have hf402 := (SesIs.kp (SesIs.k0 (SesIs.kp (SesIs.k0 hI370 hk375) hk379 (fun b hb => (fun e => (fun e => Nat.lt_irrefl _ (nt (SesIs.lt hI370 _ e) (nl (Nat.le_refl _) (Nat.le_refl _)))) (e ▸ hb))) (Nat.ne_of_lt (nt (nt (hT0.lt) hz381) (Nat.le_refl _)))) hk388) hk396 (fun b hb => (fun e => hnr371 (e ▸ hb))) (Nat.ne_of_lt (nt (hT0.lt) hr9.2.1)))
            refine s_e (e_call ca67 (args := [(Vp g.q.qb 0)]) rfl (qnext_spec (SesIs.q hf402))) rfl ?_
            rintro _ w403 ⟨⟨hz404, rfl⟩ | ⟨hz405, rfl⟩, hk406⟩
            · have ka407 := (Kp.then0 ka397 hk406)
              refine s_y (y_move (v := (.tuple #[(Vi 0), (Vi 0), Vf])) rfl) rfl ?_
              refine s_y (y_ext rfl (v := (Vi 0)) rfl) rfl ?_
              refine s_y (y_ext rfl (v := (Vi 0)) rfl) rfl ?_
              refine s_y (y_ext rfl (v := Vf) rfl) rfl ?_
              refine s_y (y_assign (v := (Vi 0)) rfl) rfl ?_
              refine s_y (y_assign (v := (Vi 0)) rfl) rfl ?_
              refine s_y (y_assign (v := Vf) rfl) rfl ?_
              have hf408 := (hC395.kp hk406 id)
              have hf409 := (SesIs.k0 hf402 hk406)
              have hz410 := (nl (nl hk13.size hk29.size) hk268.size)
              have kc411 : Kp (fun k => SN g st w k) w26 w267 := (Kp.trans (Kp.refl _ _) hk268 (fun _ _ e => e))
              have kc412 : Kp (fun k => SN g st w k) w26 w364 := (Kp.trans kc411 (SesNx.kp hN366) fun i hi e => (fun e => (fun e => e) (PopI.fp hP9 _ e)) e)
              have kc413 : Kp (fun k => SN g st w k) w26 w373 := (Kp.then0 kc412 hk375)
              have kc414 : Kp (fun k => SN g st w k) w26 w377 := (Kp.fresh kc413 hk379 fun _ e => nl (nl (nl hk268.size (SesNx.kp hN366).size) (Nat.le_refl _)) (Nat.le_of_eq e.symm))
              have kc415 : Kp (fun k => SN g st w k) w26 w386 := (Kp.then0 kc414 hk388)
              have kc416 : Kp (fun k => SN g st w k) w26 w394 := (Kp.trans kc415 hk396 fun i hi e => (fun e => (fun e => e) (Or.inr (nl (nl (Nat.le_refl _) hr9.2.1) (Nat.le_of_eq e.symm)))) e)
              have kc417 : Kp (fun k => SN g st w k) w26 w403 := (Kp.then0 kc416 hk406)
              exact s_nil (hK269 (s365, (some (rb, cap391)), (xs ++ [p9.1]), 0, 0, false) _ _ ⟨⟨g398, g399, (Eq.trans g400 (rowq_of (by simp) _ _)), rfl, rfl, rfl, trivial⟩, kc417, (show SesIs g s365 w403 from hf409), (show PopI g st w now (xs ++ [p9.1]) s365 from (hP9.step hI9 hz410 hp9 hd9 hmin9 hN366 hl367 hl368)), (show RowP g w.heap.size (some (rb, cap391)) (xs ++ [p9.1]) s365 w403 from (show OwnC Session.cs 9 _ rb 59 cap391 (xs ++ [p9.1]) ∧ w.heap.size ≤ rb ∧ rb ∉ sfp g s365 from ⟨hf408, (nl (Nat.le_refl _) hr9.2.1), hnr371⟩)), (show NextV s365.qs 0 0 false from (.inl ⟨hz404, rfl⟩))⟩ (by show s365.l.length < s2.l.length; rw [hl368]; have h9 := cutS_len (SesIs.ids hI9) hp9; omega))
            · have ka418 := (Kp.then0 ka397 hk406)
              refine s_y (y_move (v := (.tuple #[(Vi ((ix s365.qs.l 0).id)), (Vi ((ix s365.qs.l 0).due)), Vt])) rfl) rfl ?_
              refine s_y (y_ext rfl (v := (Vi ((ix s365.qs.l 0).id))) rfl) rfl ?_
              refine s_y (y_ext rfl (v := (Vi ((ix s365.qs.l 0).due))) rfl) rfl ?_
              refine s_y (y_ext rfl (v := Vt) rfl) rfl ?_
              refine s_y (y_assign (v := (Vi ((ix s365.qs.l 0).id))) rfl) rfl ?_
              refine s_y (y_assign (v := (Vi ((ix s365.qs.l 0).due))) rfl) rfl ?_
              refine s_y (y_assign (v := Vt) rfl) rfl ?_
              have hf419 := (hC395.kp hk406 id)
              have hf420 := (SesIs.k0 hf402 hk406)
              have hz421 := (nl (nl hk13.size hk29.size) hk268.size)
              have kc422 : Kp (fun k => SN g st w k) w26 w267 := (Kp.trans (Kp.refl _ _) hk268 (fun _ _ e => e))
              have kc423 : Kp (fun k => SN g st w k) w26 w364 := (Kp.trans kc422 (SesNx.kp hN366) fun i hi e => (fun e => (fun e => e) (PopI.fp hP9 _ e)) e)
              have kc424 : Kp (fun k => SN g st w k) w26 w373 := (Kp.then0 kc423 hk375)
              have kc425 : Kp (fun k => SN g st w k) w26 w377 := (Kp.fresh kc424 hk379 fun _ e => nl (nl (nl hk268.size (SesNx.kp hN366).size) (Nat.le_refl _)) (Nat.le_of_eq e.symm))
              have kc426 : Kp (fun k => SN g st w k) w26 w386 := (Kp.then0 kc425 hk388)
              have kc427 : Kp (fun k => SN g st w k) w26 w394 := (Kp.trans kc426 hk396 fun i hi e => (fun e => (fun e => e) (Or.inr (nl (nl (Nat.le_refl _) hr9.2.1) (Nat.le_of_eq e.symm)))) e)
              have kc428 : Kp (fun k => SN g st w k) w26 w403 := (Kp.then0 kc427 hk406)
              exact s_nil (hK269 (s365, (some (rb, cap391)), (xs ++ [p9.1]), (ix s365.qs.l 0).id, (ix s365.qs.l 0).due, true) _ _ ⟨⟨g398, g399, (Eq.trans g400 (rowq_of (by simp) _ _)), rfl, rfl, rfl, trivial⟩, kc428, (show SesIs g s365 w403 from hf420), (show PopI g st w now (xs ++ [p9.1]) s365 from (hP9.step hI9 hz421 hp9 hd9 hmin9 hN366 hl367 hl368)), (show RowP g w.heap.size (some (rb, cap391)) (xs ++ [p9.1]) s365 w403 from (show OwnC Session.cs 9 _ rb 59 cap391 (xs ++ [p9.1]) ∧ w.heap.size ≤ rb ∧ rb ∉ sfp g s365 from ⟨hf419, (nl (Nat.le_refl _) hr9.2.1), hnr371⟩)), (show NextV s365.qs ((ix s365.qs.l 0).id) ((ix s365.qs.l 0).due) true from (.inr ⟨hz405, rfl, rfl, rfl⟩))⟩ (by show s365.l.length < s2.l.length; rw [hl368]; have h9 := cutS_len (SesIs.ids hI9) hp9; omega))
          · have ka429 := (Kp.fresh ka389 hk396 fun _ e => nl (nl (Nat.le_refl _) hr9.2.1) (Nat.le_of_eq e.symm))
            refine s_y (y_assign (v := (.slice (some ⟨w386.heap.size, 0, none⟩) (xs.length + 1) cap391)) rfl) rfl ?_
            refine s_nil (hK362 _ _ (genC [(0, (Vp g.tb 0)), (1, (Vi now)), (5, (.slice (some ⟨w386.heap.size, 0, none⟩) (xs.length + 1) cap391))] ⟨g382, g383, rfl, trivial⟩ ?_))
            clear hK362; rintro E ⟨g430, g431, g432, -⟩
            refine reg ?_
            refine s_y (y_move (v := (Vp g.tb 0)) g430) rfl ?_
            refine s_y (y_nil rfl) rfl ?_
            refine s_y (y_fld fo115_4 rfl) rfl ?_
            have hb433 := (hk396.get (hk388.get0 (hk379.get (hk375.get0 hb372) (Nat.ne_of_lt (nt (lt_of_get hb372) (Nat.le_refl _))))) (Nat.ne_of_lt (nt (lt_of_get hb0) hr9.2.1)))
            refine s_y (y_load (v := (Vp g.q.qb 0)) rfl (rd_sc sc111 (On.now hb433) rfl)) rfl ?_
            have hf434 := (SesIs.kp (SesIs.k0 (SesIs.kp (SesIs.k0 hI370 hk375) hk379 (fun b hb => (fun e => (fun e => Nat.lt_irrefl _ (nt (SesIs.lt hI370 _ e) (nl (Nat.le_refl _) (Nat.le_refl _)))) (e ▸ hb))) (Nat.ne_of_lt (nt (nt (hT0.lt) hz381) (Nat.le_refl _)))) hk388) hk396 (fun b hb => (fun e => hnr371 (e ▸ hb))) (Nat.ne_of_lt (nt (hT0.lt) hr9.2.1)))
            refine s_e (e_call ca67 (args := [(Vp g.q.qb 0)]) rfl (qnext_spec (SesIs.q hf434))) rfl ?_
            rintro _ w435 ⟨⟨hz436, rfl⟩ | ⟨hz437, rfl⟩, hk438⟩
            · have ka439 := (Kp.then0 ka429 hk438)
              refine s_y (y_move (v := (.tuple #[(Vi 0), (Vi 0), Vf])) rfl) rfl ?_
              refine s_y (y_ext rfl (v := (Vi 0)) rfl) rfl ?_
              refine s_y (y_ext rfl (v := (Vi 0)) rfl) rfl ?_
              refine s_y (y_ext rfl (v := Vf) rfl) rfl ?_
              refine s_y (y_assign (v := (Vi 0)) rfl) rfl ?_
              refine s_y (y_assign (v := (Vi 0)) rfl) rfl ?_
              refine s_y (y_assign (v := Vf) rfl) rfl ?_
              have hf440 := (hC395.kp hk438 id)
              have hz441 := (nl (nl hk375.size hk379.size) hk388.size)
              have hf442 := (SesIs.k0 hf434 hk438)
              have hz443 := (nl (nl hk13.size hk29.size) hk268.size)
              have hz444 := (nl (nl (nl hz381 hk375.size) hk379.size) hk388.size)
              have kc445 : Kp (fun k => SN g st w k) w26 w267 := (Kp.trans (Kp.refl _ _) hk268 (fun _ _ e => e))
              have kc446 : Kp (fun k => SN g st w k) w26 w364 := (Kp.trans kc445 (SesNx.kp hN366) fun i hi e => (fun e => (fun e => e) (PopI.fp hP9 _ e)) e)
              have kc447 : Kp (fun k => SN g st w k) w26 w373 := (Kp.then0 kc446 hk375)
              have kc448 : Kp (fun k => SN g st w k) w26 w377 := (Kp.fresh kc447 hk379 fun _ e => nl (nl (nl hk268.size (SesNx.kp hN366).size) (Nat.le_refl _)) (Nat.le_of_eq e.symm))
              have kc449 : Kp (fun k => SN g st w k) w26 w386 := (Kp.then0 kc448 hk388)
              have kc450 : Kp (fun k => SN g st w k) w26 w394 := (Kp.trans kc449 hk396 fun i hi e => (fun e => (fun e => e) (Or.inr (nl (nl (Nat.le_refl _) hr9.2.1) (Nat.le_of_eq e.symm)))) e)
              have kc451 : Kp (fun k => SN g st w k) w26 w435 := (Kp.then0 kc450 hk438)
              exact s_nil (hK269 (s365, (some (w386.heap.size, cap391)), (xs ++ [p9.1]), 0, 0, false) _ _ ⟨⟨g430, g431, (Eq.trans g432 (rowq_of (by simp) _ _)), rfl, rfl, rfl, trivial⟩, kc451, (show SesIs g s365 w435 from hf442), (show PopI g st w now (xs ++ [p9.1]) s365 from (hP9.step hI9 hz443 hp9 hd9 hmin9 hN366 hl367 hl368)), (show RowP g w.heap.size (some (w386.heap.size, cap391)) (xs ++ [p9.1]) s365 w435 from (show OwnC Session.cs 9 _ w386.heap.size 59 cap391 (xs ++ [p9.1]) ∧ w.heap.size ≤ w386.heap.size ∧ w386.heap.size ∉ sfp g s365 from ⟨hf440, (nl hz444 (Nat.le_refl _)), (SesIs.notin hI370 hz441)⟩)), (show NextV s365.qs 0 0 false from (.inl ⟨hz436, rfl⟩))⟩ (by show s365.l.length < s2.l.length; rw [hl368]; have h9 := cutS_len (SesIs.ids hI9) hp9; omega))
            · have ka452 := (Kp.then0 ka429 hk438)
              refine s_y (y_move (v := (.tuple #[(Vi ((ix s365.qs.l 0).id)), (Vi ((ix s365.qs.l 0).due)), Vt])) rfl) rfl ?_
              refine s_y (y_ext rfl (v := (Vi ((ix s365.qs.l 0).id))) rfl) rfl ?_
              refine s_y (y_ext rfl (v := (Vi ((ix s365.qs.l 0).due))) rfl) rfl ?_
              refine s_y (y_ext rfl (v := Vt) rfl) rfl ?_
              refine s_y (y_assign (v := (Vi ((ix s365.qs.l 0).id))) rfl) rfl ?_
              refine s_y (y_assign (v := (Vi ((ix s365.qs.l 0).due))) rfl) rfl ?_
              refine s_y (y_assign (v := Vt) rfl) rfl ?_
              have hf453 := (hC395.kp hk438 id)
              have hz454 := (nl (nl hk375.size hk379.size) hk388.size)
              have hf455 := (SesIs.k0 hf434 hk438)
              have hz456 := (nl (nl hk13.size hk29.size) hk268.size)
              have hz457 := (nl (nl (nl hz381 hk375.size) hk379.size) hk388.size)
              have kc458 : Kp (fun k => SN g st w k) w26 w267 := (Kp.trans (Kp.refl _ _) hk268 (fun _ _ e => e))
              have kc459 : Kp (fun k => SN g st w k) w26 w364 := (Kp.trans kc458 (SesNx.kp hN366) fun i hi e => (fun e => (fun e => e) (PopI.fp hP9 _ e)) e)
              have kc460 : Kp (fun k => SN g st w k) w26 w373 := (Kp.then0 kc459 hk375)
              have kc461 : Kp (fun k => SN g st w k) w26 w377 := (Kp.fresh kc460 hk379 fun _ e => nl (nl (nl hk268.size (SesNx.kp hN366).size) (Nat.le_refl _)) (Nat.le_of_eq e.symm))
              have kc462 : Kp (fun k => SN g st w k) w26 w386 := (Kp.then0 kc461 hk388)
              have kc463 : Kp (fun k => SN g st w k) w26 w394 := (Kp.trans kc462 hk396 fun i hi e => (fun e => (fun e => e) (Or.inr (nl (nl (Nat.le_refl _) hr9.2.1) (Nat.le_of_eq e.symm)))) e)
              have kc464 : Kp (fun k => SN g st w k) w26 w435 := (Kp.then0 kc463 hk438)
              exact s_nil (hK269 (s365, (some (w386.heap.size, cap391)), (xs ++ [p9.1]), (ix s365.qs.l 0).id, (ix s365.qs.l 0).due, true) _ _ ⟨⟨g430, g431, (Eq.trans g432 (rowq_of (by simp) _ _)), rfl, rfl, rfl, trivial⟩, kc464, (show SesIs g s365 w435 from hf455), (show PopI g st w now (xs ++ [p9.1]) s365 from (hP9.step hI9 hz456 hp9 hd9 hmin9 hN366 hl367 hl368)), (show RowP g w.heap.size (some (w386.heap.size, cap391)) (xs ++ [p9.1]) s365 w435 from (show OwnC Session.cs 9 _ w386.heap.size 59 cap391 (xs ++ [p9.1]) ∧ w.heap.size ≤ w386.heap.size ∧ w386.heap.size ∉ sfp g s365 from ⟨hf453, (nl hz457 (Nat.le_refl _)), (SesIs.notin hI370 hz454)⟩)), (show NextV s365.qs ((ix s365.qs.l 0).id) ((ix s365.qs.l 0).due) true from (.inr ⟨hz437, rfl, rfl, rfl⟩))⟩ (by show s365.l.length < s2.l.length; rw [hl368]; have h9 := cutS_len (SesIs.ids hI9) hp9; omega))
      · refine exit (hK22 _ _ (genC [(5, (rowq r xs))] ⟨g281, trivial⟩ ?_))
        clear hK22; rintro E ⟨g465, -⟩
        refine seq fun K466 hK466 => ?_
        refine reg ?_
        refine s_y (y_move (v := (rowq r xs)) g465) rfl ?_
        refine s_y (y_assign (v := (rowq r xs)) rfl) rfl ?_
        refine s_nil (hK466 _ _ (genC [(4, (rowq r xs))] ⟨rfl, trivial⟩ ?_))
        clear hK466; rintro E ⟨g467, -⟩
        refine ret (hret _ _ [(rowq r xs)] ⟨g467, trivial⟩ ?_)
        exact ⟨s2, xs, ⟨hI9, ka274.mono (fun b hb e => e.elim id fun e => absurd hb (Nat.not_lt.2 e)), hP9.fp⟩, hP9, next_end hI9 hn9 (fun h9 => c284 h9.2), RowP.sesV hi272⟩
    · refine s_no (.no rfl (c := false) (congrArg Value.bool c278) rfl) rfl ?_
      refine s_no (.no rfl (c := false) (congrArg Value.bool c278) rfl) rfl ?_
      refine s_no (.no rfl (c := false) (congrArg Value.bool c278) rfl) rfl ?_
      refine s_y (y_pick_f (congrArg Value.bool c278) (v := Vf) rfl) rfl ?_
      refine s_nil (hK277 _ _ (genC [(0, (Vp g.tb 0)), (1, (Vi now)), (5, (rowq r xs)), (6, (Vi i)), (27, Vf)] ⟨g261, g262, g263, g264, rfl, trivial⟩ ?_))
      clear hK277; rintro E ⟨g468, g469, g470, g471, g472, -⟩
      refine cond_f g472 ?_
      refine exit (hK22 _ _ (genC [(5, (rowq r xs))] ⟨g470, trivial⟩ ?_))
      clear hK22; rintro E ⟨g473, -⟩
      refine seq fun K474 hK474 => ?_
      refine reg ?_
      refine s_y (y_move (v := (rowq r xs)) g473) rfl ?_
      refine s_y (y_assign (v := (rowq r xs)) rfl) rfl ?_
      refine s_nil (hK474 _ _ (genC [(4, (rowq r xs))] ⟨rfl, trivial⟩ ?_))
      clear hK474; rintro E ⟨g475, -⟩
      refine ret (hret _ _ [(rowq r xs)] ⟨g475, trivial⟩ ?_)
      exact ⟨s2, xs, ⟨hI9, ka274.mono (fun b hb e => e.elim id fun e => absurd hb (Nat.not_lt.2 e)), hP9.fp⟩, hP9, next_end hI9 hn9 (fun h9 => by rw [c278] at h9; cases h9.1), RowP.sesV hi272⟩

end Go.Proofs.YtdcnblafepgheaaDoor
