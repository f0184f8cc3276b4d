/-
  Written by a program (wip/walks).
-/
import Derived.Test.YtdcnblafepgheaaDoorS13
namespace Go.Proofs.YtdcnblafepgheaaDoor
open Go Go.V
set_option maxRecDepth 100000
structure Sx where
  (last : Int) (L : List Session)
def lookX (L : List Session) (b : Int) (t : T4) : Option Session := L.find? fun s => decide (s.binding = b ∧ s.peer = t)
abbrev dueOk (d : Int) : Prop := 0 ≤ d ∧ d ≤ 4611686018427387904
def addX (m : Int) (a : Sx) (b : Int) (t : T4) (s d : Int) : Session × Int × Sx :=
  if ¬ dueOk d then (zeroS, 1, a) else if (lookX a.L b t).isSome then (zeroS, 5, a) else if m ≤ a.L.length then (zeroS, 6, a) else (⟨a.last + 1, b, t, s, d⟩, 0, ⟨a.last + 1, a.L ++ [⟨a.last + 1, b, t, s, d⟩]⟩)
def setX (a : Sx) (n s d : Int) : Int × Sx :=
  if ¬ dueOk d then (1, a) else if a.L.any fun x => decide (x.id = n) then (0, ⟨a.last, a.L.map fun x => if x.id = n then ⟨x.id, x.binding, x.peer, s, d⟩ else x⟩) else (4, a)
def dropX (a : Sx) (n : Int) : Session × Int × Sx :=
  match a.L.find? fun x => decide (x.id = n) with
  | none => (zeroS, 4, a)
  | some x => (x, 0, ⟨a.last, a.L.filter fun x => !decide (x.id = n)⟩)
def popX (a : Sx) (now : Int) : Sx := ⟨a.last, a.L.filter fun x => decide (now < x.due)⟩
def sx (st : SesS) : Sx := ⟨st.last, st.l.map (·.1)⟩
def noneLike (x y : Session) : Prop := ¬ (y.binding = x.binding ∧ y.peer = x.peer)
structure SWf (m c : Int) (a : Sx) : Prop where
  last : 0 ≤ a.last ∧ a.last ≤ c
  ids : ∀ s ∈ a.L, 1 ≤ s.id ∧ s.id ≤ a.last
  nd : (a.L.map (·.id)).Nodup
  key : a.L.Pairwise noneLike
  rng : ∀ s ∈ a.L, (-9223372036854775808 ≤ s.binding ∧ s.binding ≤ 9223372036854775807) ∧ (-9223372036854775808 ≤ s.peer.port ∧ s.peer.port ≤ 9223372036854775807)
  len : (a.L.length : Int) ≤ m
theorem SWf.mono {m c d : Int} {a : Sx} (h : SWf m c a) (hd : c ≤ d) : SWf m d a := ⟨⟨h.last.1, Int.le_trans h.last.2 hd⟩, h.ids, h.nd, h.key, h.rng, h.len⟩
theorem SWf.sub {m c : Int} {a : Sx} (h : SWf m c a) {L : List Session} (hs : L.Sublist a.L) : SWf m c ⟨a.last, L⟩ := ⟨h.last, fun s e => h.ids s (hs.subset e), h.nd.sublist (hs.map _), h.key.sublist hs, fun s e => h.rng s (hs.subset e), by have := hs.length_le; have := h.len; show (L.length : Int) ≤ m; omega⟩
theorem wfX0 {m : Int} (hm : 0 ≤ m) : SWf m 0 ⟨0, []⟩ := ⟨⟨Int.le_refl _, Int.le_refl _⟩, fun _ h => (by cases h), List.nodup_nil, List.Pairwise.nil, fun _ h => (by cases h), hm⟩
theorem lookX_none {L : List Session} {b : Int} {t : T4} (h : lookX L b t = none) : ∀ s ∈ L, ¬ (s.binding = b ∧ s.peer = t) := fun s hs e => by
  have := List.find?_eq_none.1 h s hs; simp [e] at this
theorem addX_wf {m c : Int} {a : Sx} (h : SWf m c a) {b : Int} {t : T4} {s d : Int} (hb : -9223372036854775808 ≤ b ∧ b ≤ 9223372036854775807) (ht : -9223372036854775808 ≤ t.port ∧ t.port ≤ 9223372036854775807) : SWf m (c + 1) (addX m a b t s d).2.2 := by
  unfold addX
  split
  · exact h.mono (by omega)
  · split
    · exact h.mono (by omega)
    · rename_i hn
      split
      · exact h.mono (by omega)
      · rename_i hm
        have hno : lookX a.L b t = none := by simpa using hn
        have := h.last
        refine ⟨⟨by show 0 ≤ a.last + 1; omega, by show a.last + 1 ≤ c + 1; omega⟩, fun x hx => ?_, ?_, ?_, fun x hx => ?_, ?_⟩
        · rcases List.mem_append.1 hx with hx | hx
          · have := h.ids x hx; exact ⟨this.1, by show x.id ≤ a.last + 1; omega⟩
          · rw [List.mem_singleton.1 hx]; exact ⟨by show 1 ≤ a.last + 1; omega, Int.le_refl _⟩
        · show ((a.L ++ [_]).map _).Nodup
          rw [List.map_append, List.nodup_append]
          refine ⟨h.nd, by simp, fun x hx y hy => ?_⟩
          obtain ⟨z, hz, rfl⟩ := List.mem_map.1 hx
          have := h.ids z hz
          rw [List.map_cons, List.map_nil, List.mem_singleton] at hy
          rw [hy]; show z.id ≠ a.last + 1; omega
        · show (a.L ++ [_]).Pairwise _
          rw [List.pairwise_append]
          refine ⟨h.key, List.pairwise_singleton _ _, fun x hx y hy e => ?_⟩
          rw [List.mem_singleton.1 hy] at e
          exact lookX_none hno x hx ⟨e.1.symm, e.2.symm⟩
        · rcases List.mem_append.1 hx with hx | hx
          · exact h.rng x hx
          · rw [List.mem_singleton.1 hx]; exact ⟨hb, ht⟩
        · show ((a.L ++ [_]).length : Int) ≤ m
          rw [List.length_append]; simp only [List.length_singleton]; omega
theorem setX_wf {m c : Int} {a : Sx} (h : SWf m c a) (n s d : Int) : SWf m (c + 1) (setX a n s d).2 := by
  unfold setX
  split
  · exact h.mono (by omega)
  · split
    · have hl := h.last
      have hm : ∀ (φ : Session → Int), (∀ x : Session, φ (if x.id = n then (⟨x.id, x.binding, x.peer, s, d⟩ : Session) else x) = φ x) → (a.L.map fun x => if x.id = n then (⟨x.id, x.binding, x.peer, s, d⟩ : Session) else x).map φ = a.L.map φ := fun φ hφ => by
        rw [List.map_map]; exact List.map_congr_left fun x _ => hφ x
      refine ⟨⟨hl.1, Int.le_trans hl.2 (by omega)⟩, fun x hx => ?_, ?_, ?_, fun x hx => ?_, by simpa using h.len⟩
      · obtain ⟨y, hy, rfl⟩ := List.mem_map.1 hx
        have := h.ids y hy
        split <;> exact this
      · show ((a.L.map _).map _).Nodup
        rw [hm _ fun x => by split <;> rfl]; exact h.nd
      · show (a.L.map _).Pairwise _
        rw [List.pairwise_map]
        refine h.key.imp fun {x y} hxy => ?_
        unfold noneLike at *
        split <;> split <;> exact hxy
      · obtain ⟨y, hy, rfl⟩ := List.mem_map.1 hx
        have := h.rng y hy
        split <;> exact this
    · exact h.mono (by omega)
theorem dropX_wf {m c : Int} {a : Sx} (h : SWf m c a) (n : Int) : SWf m (c + 1) (dropX a n).2.2 := by
  unfold dropX
  split
  · exact h.mono (by omega)
  · exact (h.sub List.filter_sublist).mono (by omega)
theorem popX_wf {m c : Int} {a : Sx} (h : SWf m c a) (now : Int) : SWf m (c + 1) (popX a now) := (h.sub List.filter_sublist).mono (by omega)
section
variable {m : Int} {g : SesG} {c : Int} {B : Nat} {st : SesS} {w : World} {a : Sx}
theorem find_fst (l : List (Session × Nat)) (f : Session → Bool) : (l.map (·.1)).find? f = (l.find? fun p => f p.1).map (·.1) := by rw [List.find?_map]; rfl
theorem lookX_fst (b : Int) (t : T4) : lookX (sx st).L b t = (lookS st.l b t).map (·.1) := find_fst _ _
theorem SWf.keyU (h : SWf m c (sx st)) : KeyU st.l := fun p hp q hq e1 e2 => by
  have hk : st.l.Pairwise fun x y => noneLike x.1 y.1 := List.pairwise_map.1 h.key
  generalize st.l = l at hk hp hq
  induction l with
  | nil => cases hp
  | cons y l ih =>
    rw [List.pairwise_cons] at hk
    rcases List.mem_cons.1 hp with a | a <;> rcases List.mem_cons.1 hq with c | c
    · rw [a, c]
    · exact absurd ⟨by rw [← a]; exact e1, by rw [← a]; exact e2⟩ (hk.1 q c)
    · exact absurd ⟨by rw [← c]; exact e1.symm, by rw [← c]; exact e2.symm⟩ (hk.1 p a)
    · exact ih hk.2 a c
theorem SWf.rngU (h : SWf m c (sx st)) : RngU st.l := fun p hp => h.rng p.1 (List.mem_map.2 ⟨p, hp, rfl⟩)
theorem SWf.len' (h : SWf m c (sx st)) : (st.l.length : Int) ≤ m := by have := h.len; simpa [sx] using this
/-- the table stands as the plain machine's a, after c acts -/
structure STab (m : Int) (g : SesG) (c : Int) (B : Nat) (a : Sx) (st : SesS) (w : World) : Prop where
  ok : SesOk g
  gm : g.max = m
  is : SesIs g st w
  eq : sx st = a
  wf : SWf m c a
  ge : ∀ b ∈ sfp g st, B ≤ b
theorem STab.k0 {w' : World} (h : STab m g c B a st w) (k : K0 w w') : STab m g c B a st w' := ⟨h.ok, h.gm, h.is.k0 k, h.eq, h.wf, h.ge⟩
theorem STab.kp {w' : World} (h : STab m g c B a st w) {F : Nat → Prop} (k : Kp F w w') (hF : ∀ b ∈ sfp g st, ¬ F b) (hT : ¬ F 0) : STab m g c B a st w' := ⟨h.ok, h.gm, h.is.kp k hF hT, h.eq, h.wf, h.ge⟩
theorem STab.lt (h : STab m g c B a st w) : ∀ b ∈ sfp g st, b < w.heap.size := h.is.lt
theorem STab.tbn (h : STab m g c B a st w) : 0 ∉ sfp g st := h.is.tbn
theorem STab.wf' (h : STab m g c B a st w) : SWf m c (sx st) := h.eq ▸ h.wf
theorem STab.le (h : STab m g c B a st w) : B ≤ w.heap.size := by
  have hm : g.tb ∈ sfp g st := sfp_fx (by simp [SesG.fx])
  have := h.ge _ hm; have := h.is.lt _ hm; omega
theorem STab.mono {d : Int} (h : STab m g c B a st w) (hd : c ≤ d) : STab m g d B a st w := ⟨h.ok, h.gm, h.is, h.eq, h.wf.mono hd, h.ge⟩
theorem STab.small (h : STab m g c B a st w) : st.l.length ≤ 1000000 := by
  have h1 := h.wf'.len'; have h2 := h.ok.mx; have h3 := h.gm; omega
/-- the next state -/
structure SNx (m : Int) (g : SesG) (c : Int) (B : Nat) (a' : Sx) (st : SesS) (w : World) (st' : SesS) (w' : World) : Prop where
  tab : STab m g (c + 1) B a' st' w'
  sub : ∀ b ∈ sfp g st', b ∈ sfp g st ∨ w.heap.size ≤ b
  kp : Kp (fun k => k ∈ sfp g st) w w'
  kpB : Kp (fun k => B ≤ k) w w'
theorem SNx.notin {a' : Sx} {st' : SesS} {w' : World} (h : SNx m g c B a' st w st' w') {b : Nat} (hn : b ∉ sfp g st) (hl : b < w.heap.size) : b ∉ sfp g st' := fun e => (h.sub b e).elim hn fun x => Nat.not_le.2 hl x
theorem SesNx.sn {a' : Sx} {st' : SesS} {w' : World} (t : STab m g c B a st w) (h : SesNx g st w st' w') (e : sx st' = a') (hw : SWf m (c + 1) a') : SNx m g c B a' st w st' w' :=
  ⟨⟨t.ok, t.gm, h.is, e, hw, fun b hb => (h.sub b hb).elim (fun x => t.ge b x) fun x => Nat.le_trans t.le x⟩, h.sub, h.kp, h.kp.mono fun i _ hi => t.ge i hi⟩
theorem SNx.of0 {w' : World} (t : STab m g c B a st w) (k : K0 w w') : SNx m g c B a st w st w' := ⟨(t.k0 k).mono (by omega), fun _ e => .inl e, .of0 k, .of0 k⟩
theorem sx_cut (n : Int) : (cutS st.l n).map (·.1) = (sx st).L.filter fun x => !decide (x.id = n) := by unfold cutS sx; rw [List.filter_map]; rfl
theorem sx_upd (n s d : Int) : (updS st.l n s d).map (·.1) = (sx st).L.map fun x => if x.id = n then ⟨x.id, x.binding, x.peer, s, d⟩ else x := by
  unfold updS sx; rw [List.map_map, List.map_map]; exact List.map_congr_left fun q _ => by simp only [Function.comp_apply]; split <;> rfl
theorem add_sx (h : STab m g c B a st w) (hc : 0 ≤ c ∧ c ≤ 1000000) (b : Int) (t : T4) (s d : Int) (hb : -9223372036854775808 ≤ b ∧ b ≤ 9223372036854775807) (ht : -9223372036854775808 ≤ t.port ∧ t.port ≤ 9223372036854775807) (hd : -9223372036854775808 ≤ d ∧ d ≤ 9223372036854775807) :
    Rets Tryd.prog 27 #[.pointer (some ⟨g.tb, 0, none⟩), .int .i64 b, t4 t, .int .i64 s, .int .i64 d] w fun v w' => ∃ st', v = .tuple #[sv (addX m a b t s d).1, .int .i64 (addX m a b t s d).2.1] ∧ SNx m g c B (addX m a b t s d).2.2 st w st' w' := by
  have hwf := h.wf'
  have hl := hwf.last
  refine (sadd_spec h.ok h.is b t s d hb ht hd ⟨hl.1, Int.le_trans hl.2 hc.2⟩ (fun p hp => (hwf.ids p.1 (List.mem_map.2 ⟨p, hp, rfl⟩)).2)).mono fun v w' ⟨st', hN, hx⟩ => ?_
  have e1 := h.eq
  have hA := addX_wf (s := s) (d := d) h.wf hb ht
  have eL : lookX a.L b t = (lookS st.l b t).map (·.1) := by rw [← e1]; exact lookX_fst b t
  have el : a.L.length = st.l.length := by rw [← e1]; simp [sx]
  have ea : a.last = st.last := by rw [← e1]; rfl
  refine ⟨st', ?_⟩
  rcases hx with ⟨h1, hs', rfl⟩ | ⟨h1, h2, hs', rfl⟩ | ⟨h1, h2, ⟨bx, h3, h4⟩, rfl⟩
  · obtain rfl := hs'.symm
    have : addX m a b t s d = (zeroS, 1, a) := by unfold addX; rw [if_pos h1]
    rw [this] at hA ⊢; exact ⟨rfl, hN.sn h e1 hA⟩
  · obtain rfl := hs'.symm
    by_cases hs : (lookS st.l b t).isSome
    · have : addX m a b t s d = (zeroS, 5, a) := by unfold addX; rw [if_neg (not_not_intro h1), eL, if_pos (by simpa using hs)]
      rw [this] at hA ⊢; exact ⟨by rw [if_pos hs], hN.sn h e1 hA⟩
    · by_cases hm : g.max ≤ st.l.length
      · have : addX m a b t s d = (zeroS, 6, a) := by unfold addX; rw [if_neg (not_not_intro h1), eL, if_neg (by simpa using hs), el, ← h.gm, if_pos hm]
        rw [this] at hA ⊢; exact ⟨by rw [if_neg hs, if_pos hm], hN.sn h e1 hA⟩
      · rw [if_neg hs, if_neg hm] at h2; exact absurd rfl h2
  · by_cases hs : (lookS st.l b t).isSome
    · rw [if_pos hs] at h2; cases h2
    · by_cases hm : g.max ≤ st.l.length
      · rw [if_neg hs, if_pos hm] at h2; cases h2
      · have : addX m a b t s d = (⟨a.last + 1, b, t, s, d⟩, 0, ⟨a.last + 1, a.L ++ [⟨a.last + 1, b, t, s, d⟩]⟩) := by unfold addX; rw [if_neg (not_not_intro h1), eL, if_neg (by simpa using hs), el, ← h.gm, if_neg hm]
        rw [this] at hA ⊢
        refine ⟨by rw [ea], hN.sn h ?_ hA⟩
        unfold sx; rw [h3, h4, List.map_append, ea, ← e1]; rfl
theorem set_sx (h : STab m g c B a st w) (n s d : Int) (hn : -9223372036854775808 ≤ n ∧ n ≤ 9223372036854775807) (hd : -9223372036854775808 ≤ d ∧ d ≤ 9223372036854775807) : Rets Tryd.prog 34 #[.pointer (some ⟨g.tb, 0, none⟩), .int .i64 n, .int .i64 s, .int .i64 d] w fun v w' => ∃ st', v = .int .i64 (setX a n s d).1 ∧ SNx m g c B (setX a n s d).2 st w st' w' := by
  have e1 := h.eq
  have hA := setX_wf h.wf n s d
  by_cases hx : ∃ p ∈ st.l, p.1.id = n
  · obtain ⟨p, hp, rfl⟩ := hx
    refine (sset_some h.is hp h.small s d hd).mono fun v w' ⟨st', hN, hy⟩ => ⟨st', ?_⟩
    have ha : (a.L.any fun x => decide (x.id = p.1.id)) = true := by rw [← e1]; exact List.any_eq_true.2 ⟨p.1, List.mem_map.2 ⟨p, hp, rfl⟩, by simp⟩
    rcases hy with ⟨h1, rfl, hs'⟩ | ⟨h1, rfl, h2, h3⟩
    · obtain rfl := hs'.symm
      have : setX a p.1.id s d = (1, a) := by unfold setX; rw [if_pos h1]
      rw [this] at hA ⊢; exact ⟨rfl, hN.sn h e1 hA⟩
    · have : setX a p.1.id s d = (0, ⟨a.last, a.L.map fun x => if x.id = p.1.id then ⟨x.id, x.binding, x.peer, s, d⟩ else x⟩) := by unfold setX; rw [if_neg (not_not_intro h1), if_pos ha]
      rw [this] at hA ⊢
      refine ⟨rfl, hN.sn h ?_ hA⟩
      have e2 := sx_upd (st := st) p.1.id s d
      unfold sx; rw [h2, h3, e2, ← e1]; rfl
  · have hno : ∀ p ∈ st.l, p.1.id ≠ n := fun p hp e => hx ⟨p, hp, e⟩
    refine (sset_none h.is n hn hno s d hd).mono fun v w' ⟨hy, hk⟩ => ⟨st, ?_⟩
    have ha : ¬ (a.L.any fun x => decide (x.id = n)) = true := by
      rw [← e1]; intro e; obtain ⟨x, hx, e2⟩ := List.any_eq_true.1 e; obtain ⟨p, hp, rfl⟩ := List.mem_map.1 hx; exact hno p hp (by simpa using e2)
    rcases hy with ⟨h1, rfl⟩ | ⟨h1, rfl⟩
    · have : setX a n s d = (1, a) := by unfold setX; rw [if_pos h1]
      rw [this]; exact ⟨rfl, .of0 h hk⟩
    · have : setX a n s d = (4, a) := by unfold setX; rw [if_neg (not_not_intro h1), if_neg ha]
      rw [this]; exact ⟨rfl, .of0 h hk⟩
theorem drop_sx (h : STab m g c B a st w) (n : Int) (hn : -9223372036854775808 ≤ n ∧ n ≤ 9223372036854775807) : Rets Tryd.prog 29 #[.pointer (some ⟨g.tb, 0, none⟩), .int .i64 n] w fun v w' => ∃ st', v = .tuple #[sv (dropX a n).1, .int .i64 (dropX a n).2.1] ∧ SNx m g c B (dropX a n).2.2 st w st' w' := by
  have e1 := h.eq
  have hA := dropX_wf h.wf n
  have hf : a.L.find? (fun x => decide (x.id = n)) = (st.l.find? fun p => decide (p.1.id = n)).map (·.1) := by rw [← e1]; exact find_fst _ _
  cases hp9 : st.l.find? (fun p => decide (p.1.id = n)) with
  | none =>
    have : dropX a n = (zeroS, 4, a) := by unfold dropX; rw [hf, hp9]; rfl
    rw [this]
    exact (sdrop_none h.is n hn fun p hp e => by have := List.find?_eq_none.1 hp9 p hp; simp [e] at this).mono fun v w' ⟨h1, hk⟩ => ⟨st, h1, .of0 h hk⟩
  | some p =>
    have hp := List.mem_of_find?_eq_some hp9
    have hpn : p.1.id = n := by have := List.find?_some hp9; simpa using this
    have : dropX a n = (p.1, 0, ⟨a.last, a.L.filter fun x => !decide (x.id = n)⟩) := by unfold dropX; rw [hf, hp9]; rfl
    rw [this] at hA ⊢
    subst hpn
    refine (sdrop_some h.ok h.is hp (h.wf'.keyU p hp) (h.wf'.rngU p hp).1 (h.wf'.rngU p hp).2).mono fun v w' ⟨st', hN, h1, h2, h3⟩ => ⟨st', h1, hN.sn h ?_ hA⟩
    have e2 := sx_cut (st := st) p.1.id
    unfold sx; rw [h2, h3, e2, ← e1]; rfl
theorem filter_of {α : Type} (P : α → Bool) {xs ys l : List α} (hs : ys.Sublist l) (hp : (xs ++ ys).Perm l) (hx : ∀ x ∈ xs, P x = false) (hy : ∀ y ∈ ys, P y = true) : ys = l.filter P := by
  have h1 : ys.Sublist (l.filter P) := by have := hs.filter P; rwa [List.filter_eq_self.2 hy] at this
  have h2 := (hp.filter P).length_eq
  rw [List.filter_append, List.filter_eq_nil_iff.2 (fun x h => by simp [hx x h]), List.nil_append, List.filter_eq_self.2 hy] at h2
  exact h1.eq_of_length h2
theorem pop_sx (h : STab m g c B a st w) (now : Int) : Rets Tryd.prog 30 #[.pointer (some ⟨g.tb, 0, none⟩), .int .i64 now] w fun v w' => ∃ st' xs, SesW g st' w xs v w' ∧ xs.Perm (a.L.filter fun x => decide (x.due ≤ now)) ∧ xs.Pairwise sord ∧ SNx m g c B (popX a now) st w st' w' := by
  have e1 := h.eq
  refine (spop_spec h.ok h.is now h.wf'.keyU h.wf'.rngU h.small).mono fun v w' ⟨s2, xs, hN, hP, hd, hv⟩ => ⟨s2, xs, hv, ?_, hP.srt, hN.sn h ?_ (popX_wf h.wf now)⟩
  · have h2 := hP.perm.filter fun x => decide (x.due ≤ now)
    rw [List.filter_append, List.filter_eq_self.2 (fun x hx => by simpa using hP.due x hx), List.filter_eq_nil_iff.2 (fun x hx => by obtain ⟨p, hp, rfl⟩ := List.mem_map.1 hx; have := hd p hp; simp; omega), List.append_nil] at h2
    rw [← e1]; exact h2
  · have := filter_of (fun x : Session => decide (now < x.due)) (hP.sub.map _) hP.perm (fun x hx => by have := hP.due x hx; simp; omega) (fun y hy => by obtain ⟨p, hp, rfl⟩ := List.mem_map.1 hy; simpa using hd p hp)
    unfold sx popX; rw [this, hP.last, ← e1]; rfl
theorem find_sx (h : STab m g c B a st w) (b : Int) (t : T4) (hb : -9223372036854775808 ≤ b ∧ b ≤ 9223372036854775807) (ht : -9223372036854775808 ≤ t.port ∧ t.port ≤ 9223372036854775807) : Rets Tryd.prog 35 #[.pointer (some ⟨g.tb, 0, none⟩), .int .i64 b, t4 t] w fun v w' => v = .tuple #[sv ((lookX a.L b t).getD zeroS), .bool (lookX a.L b t).isSome] ∧ K0 w w' := by
  have e1 := h.eq
  have eL : lookX a.L b t = (lookS st.l b t).map (·.1) := by rw [← e1]; exact lookX_fst b t
  refine (sfind_spec h.ok h.is b t hb ht).mono fun v w' ⟨hx, hk⟩ => ⟨?_, hk⟩
  rcases hx with ⟨h1, rfl⟩ | ⟨q, h1, _, rfl⟩
  · rw [eL, h1]; rfl
  · rw [eL, h1]; rfl
theorem knows_sx (h : STab m g c B a st w) (b : Int) (x : V4) (hb : -9223372036854775808 ≤ b ∧ b ≤ 9223372036854775807) : Rets Tryd.prog 32 #[.pointer (some ⟨g.tb, 0, none⟩), .int .i64 b, v4 x] w fun v w' => v = .bool ((a.L.filter fun x => decide (x.binding = b)).any fun s => decide (s.peer.addr = x)) ∧ K0 w w' := by
  have e1 := h.eq
  refine (sknows_spec h.is h.small b x hb).mono fun v w' ⟨h1, hk⟩ => ⟨?_, hk⟩
  rw [h1, ← e1]; unfold ofS sx; rw [List.filter_map]; rfl
theorem all_sx (h : STab m g c B a st w) : Rets Tryd.prog 37 #[.pointer (some ⟨g.tb, 0, none⟩)] w fun v w' => (∃ ys, ys.Perm a.L ∧ ys.Pairwise (fun a b => a.id ≤ b.id) ∧ SesV w ys v w') ∧ K0 w w' := by
  have e1 := h.eq
  exact (sall_spec h.is h.small).mono fun v w' ⟨⟨ys, h1, h2, h3⟩, hk⟩ => ⟨⟨ys, by rw [← e1]; exact h1, h2, h3⟩, hk⟩
end
theorem NewSes.tab {max : Int} {w w' : World} {g : SesG} (h : NewSes max w w' g) (hm : 0 ≤ max) : STab max g 0 w.heap.size ⟨0, []⟩ ⟨0, [], ⟨none, [], []⟩, []⟩ w' := ⟨h.ok, h.gm, h.is, rfl, wfX0 hm, h.new⟩
def peerT (a : UInt8) (p : Int) : T4 := ⟨⟨9, 0, 0, a⟩, p⟩
theorem peerT_spec (a : UInt8) (p : Int) (w : World) : Rets Tryd.prog 28 #[(u8 a), (.int .i64 p)] w fun v w' => v = t4 (peerT a p) ∧ K0 w w' := by
  refine enter Tryd.func28 rfl Tryd.ntmps28 rfl fun Q hret hend E hE => ?_
  have g1 : E 0 = (u8 a) := hE 0
  have g2 : E 1 = (Vi p) := hE 1
  clear hE
  refine seq fun K3 hK3 => ?_
  refine reg ?_
  refine s_e (e_alloc ze34) rfl ?_
  rintro _ w4 ⟨rfl, hb5, hk6⟩
  have ka7 : Kp (fun _ => False) w w4 := (Kp.then0 (Kp.refl _ _) hk6)
  refine s_nil (hK3 _ _ (genC [(0, (u8 a)), (1, (Vi p)), (4, (Vp w.heap.size 0))] ⟨g1, g2, rfl, trivial⟩ ?_))
  clear hK3; rintro E ⟨g8, g9, g10, -⟩
  refine seq fun K11 hK11 => ?_
  refine reg ?_
  refine s_y (y_move (v := (u8 a)) g8) rfl ?_
  refine s_y (y_build (vs := [(0, (.int .u8 9)), (1, U0), (2, U0), (3, (u8 a))]) (v := (.agg #[.int .u8 9, U0, U0, u8 a])) rfl (fun _ => by kernel_rfl)) rfl ?_
  refine s_y (y_move (v := (Vi p)) g9) rfl ?_
  refine s_y (y_build (vs := [(0, (.agg #[.int .u8 9, U0, U0, u8 a])), (1, (Vi p))]) (v := (.agg #[.int .u8 9, U0, U0, u8 a, .int .i64 p])) rfl (fun _ => by kernel_rfl)) rfl ?_
  refine s_e0 (e_storeV (cs' := #[(.int .u8 9), U0, U0, (u8 a), (Vi p)]) [(.int .u8 9), U0, U0, (u8 a), (Vi p)] g10 (v := (.agg #[.int .u8 9, U0, U0, u8 a, .int .i64 p])) rfl rfl sz34 hb5 rfl rfl rfl) ?_
  rintro _ w12 ⟨hb13, hk14⟩
  have ka15 := (Kp.fresh ka7 hk14 fun _ e => nl (nl (Nat.le_refl _) (Nat.le_refl _)) (Nat.le_of_eq e.symm))
  refine s_nil (hK11 _ _ (genC [(4, (Vp w.heap.size 0))] ⟨g10, trivial⟩ ?_))
  clear hK11; rintro E ⟨g16, -⟩
  refine ret (hret _ _ [(t4 (⟨(⟨9, 0, 0, a⟩ : V4), p⟩ : T4))] ⟨⟨_, g16, (rd_agg (vs := [(.int .u8 9), U0, U0, (u8 a), (Vi p)]) ag34 (On.now hb13) (by kernel_rfl) rfl)⟩, trivial⟩ ?_)
  exact ⟨rfl, ka15⟩

end Go.Proofs.YtdcnblafepgheaaDoor
