/-
  Written by a program (wip/walks).
-/
import Derived.Test.YtdcnblafepgheaaDoorS9
namespace Go.Proofs.YtdcnblafepgheaaDoor
open Go Go.V
set_option maxRecDepth 100000
theorem oml_get {o : List (Int × Nat × List (Int × Bool))} {k : Int} {v : Nat} (h : aget (oml o) k = some v) : ∃ e, o.find? (fun e => decide (e.1 = k)) = some e ∧ v = e.2.1 := by
  induction o with
  | nil => cases h
  | cons y o ih =>
    rw [oml, List.map_cons, aget] at h
    by_cases c : y.1 = k
    · rw [if_pos c] at h; exact ⟨y, List.find?_cons_of_pos (by simpa using c), (Option.some.inj h).symm⟩
    · rw [if_neg c] at h; obtain ⟨e, h1, h2⟩ := ih h; exact ⟨e, (List.find?_cons_of_neg (by simpa using c)).trans h1, h2⟩
theorem oml_none {o : List (Int × Nat × List (Int × Bool))} {k : Int} (h : aget (oml o) k = none) : o.find? (fun e => decide (e.1 = k)) = none := by
  rw [List.find?_eq_none]; intro e he hk
  exact aget_none.1 h _ (List.mem_map.2 ⟨e, he, rfl⟩) (of_decide_eq_true hk)
def ofS (l : List (Session × Nat)) (b : Int) : List Session := (l.filter fun p => decide (p.1.binding = b)).map (·.1)
theorem sesOf_map {l : List (Session × Nat)} (hn : (l.map (·.1.id)).Nodup) {m : List (Session × Nat)} (hm : ∀ p ∈ m, p ∈ l) : (m.map (·.1.id)).map (sesOf l) = m.map (·.1) := by
  rw [List.map_map]; exact List.map_congr_left fun p hp => sesOf_mem hn (hm p hp)
theorem ids_of {ks : List Int} {m l : List (Session × Nat)} (h : ks.Perm (m.map (·.1.id))) (hm : ∀ p ∈ m, p ∈ l) : ∀ k ∈ ks, ∃ p ∈ l, p.1.id = k := fun k hk => by
  obtain ⟨p, hp, e⟩ := List.mem_map.1 (h.mem_iff.1 hk); exact ⟨p, hm p hp, e⟩
theorem SesV.from {w0 w1 w2 : World} {ys : List Session} {v : Value} (h : SesV w1 ys v w2) (hle : w0.heap.size ≤ w1.heap.size) : SesV w0 ys v w2 := by
  rcases h with h | ⟨rb, cap, h1, h2, h3⟩
  · exact .inl h
  · exact .inr ⟨rb, cap, h1, h2, Nat.le_trans hle h3⟩
theorem perm_nil_map {ks : List Int} {l : List (Session × Nat)} (h : ks.Perm (l.map (·.1.id))) (e : ks = []) : l = [] := by
  subst e; exact List.map_eq_nil_iff.1 h.nil_eq.symm
theorem sall_spec {g : SesG} {st : SesS} {w : World} (h : SesIs g st w) (hc : st.l.length ≤ 1000000)  : Rets Tryd.prog 37 #[(.pointer (some ⟨g.tb, 0, none⟩))] w fun v w' => (∃ ys : List Session, ys.Perm (st.l.map (·.1)) ∧ ys.Pairwise (fun a b => a.id ≤ b.id) ∧ SesV w ys v w') ∧ K0 w w' := by
  refine enter Tryd.func37 rfl Tryd.ntmps37 rfl fun Q hret hend E hE => ?_
  have g1 : E 0 = (Vp g.tb 0) := hE 0
  clear hE
  have hb0 := h.blk; have hm0 := h.map; have hT0 := h.tb; have hx0 := h.ix; have hq0 := h.q; have ho0 := h.omap
  refine seq fun K2 hK2 => ?_
  refine reg ?_
  refine s_y (y_assign (v := (.slice none 0 0)) rfl) rfl ?_
  refine s_nil (hK2 _ _ (genC [(0, (Vp g.tb 0))] ⟨g1, trivial⟩ ?_))
  clear hK2; rintro E ⟨g3, -⟩
  refine seq fun K4 hK4 => ?_
  refine seq fun K5 hK5 => ?_
  refine reg ?_
  refine s_y (y_move (v := (Vp g.tb 0)) g3) rfl ?_
  refine s_e (e_call ca61 (args := [(Vp g.tb 0)]) rfl (snone_spec h)) rfl ?_
  rintro _ w6 ⟨rfl, hk7⟩
  have ka8 : Kp (fun _ => False) w w6 := (Kp.then0 (Kp.refl _ _) hk7)
  refine s_nil (hK5 _ _ (genC [(0, (Vp g.tb 0)), (4, Vf)] ⟨g3, rfl, trivial⟩ ?_))
  clear hK5; rintro E ⟨g9, g10, -⟩
  refine cond_f g10 ?_
  refine skip (hK4 _ _ (genC [(0, (Vp g.tb 0))] ⟨g9, trivial⟩ ?_))
  clear hK4; rintro E ⟨g11, -⟩
  refine seq fun K12 hK12 => ?_
  refine reg ?_
  refine s_y (y_move (v := (Vp g.tb 0)) g11) rfl ?_
  refine s_y (y_move (v := (Vp g.tb 0)) g11) rfl ?_
  refine s_y (y_nil rfl) rfl ?_
  refine s_y (y_fld fo115_2 rfl) rfl ?_
  have hb13 := (hk7.get0 hb0)
  refine s_y (y_load (v := (.map (some g.mb))) rfl (rd_sc sc110 (On.now hb13) rfl)) rfl ?_
  refine s_e (e_call ca74 (args := [(.map (some g.mb))]) rfl (keys_spec_s (some g.mb) _)) rfl ?_
  rintro _ w14 ⟨rfl, hb15, hk16⟩
  have ka17 := (Kp.then0 ka8 hk16)
  have hf18 := ((hm0.kp hk7 id).kp hk16 id)
  refine s_e (e_call ca69 (args := [(.func (.func 100) #[] #[(Vp w6.heap.size 0)])]) rfl (collect_spec_s hb15 hf18 (by rw [sidl, List.length_map]; exact hc))) rfl ?_
  rintro _ w19 ⟨⟨ks20, hp21, ⟨hz27, rfl⟩ | ⟨rb23, cap24, rfl, he25, hf26⟩⟩, hk22⟩
  · have ka28 := (Kp.then0 ka17 hk22)
    have hf29 := (SesIs.k0 (SesIs.k0 (SesIs.k0 h hk7) hk16) hk22)
    refine s_e (e_call ca68 (args := [(Vp g.tb 0), (.slice none 0 0)]) rfl (slist_nil hf29)) rfl ?_
    rintro _ w30 ⟨rfl, hk31⟩
    have ka32 := (Kp.then0 ka28 hk31)
    refine s_y (y_assign (v := (.slice none 0 0)) rfl) rfl ?_
    refine s_nil (hK12 _ _ (genC [(2, (.slice none 0 0))] ⟨rfl, trivial⟩ ?_))
    clear hK12; rintro E ⟨g33, -⟩
    refine ret (hret _ _ [(.slice none 0 0)] ⟨g33, trivial⟩ ?_)
    have hp9 : ks20.Perm (st.l.map (·.1.id)) := by have h9 := hp21; rw [sidl, List.map_map] at h9; exact h9
    have hz9 := perm_nil_map hp9 hz27; rw [hz9]; exact ⟨⟨[], .nil, .nil, .inl ⟨rfl, rfl⟩⟩, ka32⟩
  · have ka34 := (Kp.then0 ka17 hk22)
    have hf35 := (SesIs.k0 (SesIs.k0 (SesIs.k0 h hk7) hk16) hk22)
    refine s_e (e_call ca68 (args := [(Vp g.tb 0), (.slice (some ⟨rb23, 0, none⟩) ks20.length cap24)]) rfl (slist_spec hf35 (n := ks20.length) rfl (by rw [List.Perm.length_eq hp21, sidl, List.length_map, List.length_map]; exact hc) he25 (ids_of (by have h9 := hp21; rw [sidl, List.map_map] at h9; exact h9) (fun _ h9 => h9)))) rfl ?_
    rintro v42 w36 ⟨⟨ys37, hp38, hs39, hv40⟩, hk41⟩
    have ka43 := (Kp.then0 ka34 hk41)
    refine s_y (y_assign (v := v42) rfl) rfl ?_
    refine s_nil (hK12 _ _ (genC [(2, v42)] ⟨rfl, trivial⟩ ?_))
    clear hK12; rintro E ⟨g44, -⟩
    refine ret (hret _ _ [v42] ⟨g44, trivial⟩ ?_)
    have hp9 : ks20.Perm (st.l.map (·.1.id)) := by have h9 := hp21; rw [sidl, List.map_map] at h9; exact h9
    have hz45 := (nl (nl hk7.size hk16.size) hk22.size)
    exact ⟨⟨ys37, hp38.trans ((hp9.map (sesOf st.l)).trans (by rw [sesOf_map h.ids (fun _ h9 => h9)])), hs39, hv40.from hz45⟩, ka43⟩

theorem sof_spec {g : SesG} {st : SesS} {w : World} (h : SesIs g st w) (hc : st.l.length ≤ 1000000) (b : Int) (hb : -9223372036854775808 ≤ b ∧ b ≤ 9223372036854775807)  : Rets Tryd.prog 31 #[(.pointer (some ⟨g.tb, 0, none⟩)), (.int .i64 b)] w fun v w' => (∃ ys : List Session, ys.Perm (ofS st.l b) ∧ ys.Pairwise (fun a b => a.id ≤ b.id) ∧ SesV w ys v w') ∧ K0 w w' := by
  refine enter Tryd.func31 rfl Tryd.ntmps31 rfl fun Q hret hend E hE => ?_
  have g1 : E 0 = (Vp g.tb 0) := hE 0
  have g2 : E 1 = (Vi b) := hE 1
  clear hE
  have hb0 := h.blk; have hm0 := h.map; have hT0 := h.tb; have hx0 := h.ix; have hq0 := h.q; have ho0 := h.omap
  have hof9 := h.ofs b; unfold ofl at hof9; have hgb9 : inI b := hb
  refine seq fun K3 hK3 => ?_
  refine reg ?_
  refine s_y (y_assign (v := (.slice none 0 0)) rfl) rfl ?_
  refine s_nil (hK3 _ _ (genC [(0, (Vp g.tb 0)), (1, (Vi b))] ⟨g1, g2, trivial⟩ ?_))
  clear hK3; rintro E ⟨g4, g5, -⟩
  refine seq fun K6 hK6 => ?_
  refine seq fun K7 hK7 => ?_
  refine reg ?_
  refine s_y (y_move (v := (Vp g.tb 0)) g4) rfl ?_
  refine s_e (e_call ca61 (args := [(Vp g.tb 0)]) rfl (snone_spec h)) rfl ?_
  rintro _ w8 ⟨rfl, hk9⟩
  have ka10 : Kp (fun _ => False) w w8 := (Kp.then0 (Kp.refl _ _) hk9)
  refine s_nil (hK7 _ _ (genC [(0, (Vp g.tb 0)), (1, (Vi b)), (6, Vf)] ⟨g4, g5, rfl, trivial⟩ ?_))
  clear hK7; rintro E ⟨g11, g12, g13, -⟩
  refine cond_f g13 ?_
  refine skip (hK6 _ _ (genC [(0, (Vp g.tb 0)), (1, (Vi b))] ⟨g11, g12, trivial⟩ ?_))
  clear hK6; rintro E ⟨g14, g15, -⟩
  refine seq fun K16 hK16 => ?_
  refine reg ?_
  refine s_y (y_move (v := (Vp g.tb 0)) g14) rfl ?_
  refine s_y (y_move (v := (Vp g.tb 0)) g14) rfl ?_
  refine s_y (y_nil rfl) rfl ?_
  refine s_y (y_fld fo115_5 rfl) rfl ?_
  have hb17 := (hk9.get0 hb0)
  refine s_y (y_load (v := (.map (some g.om))) rfl (rd_sc sc113 (On.now hb17) rfl)) rfl ?_
  refine s_y (y_move (v := (Vi b)) g15) rfl ?_
  have hf18 := (ho0.kp hk9 id)
  cases c19 : aget (oml st.o) b with
  | none =>
    rw [oml_none c19] at hof9; simp only at hof9
    refine s_y (y_lookup_none kf3 Tryd.underlying113 ze120 (MapOn.now hf18) rfl rfl (show inI b from inI_of (by omega) (by omega)) c19) rfl ?_
    refine s_e (e_call ca70 (args := [(.map none)]) rfl (keys_spec_b none _)) rfl ?_
    rintro _ w21 ⟨rfl, hb22, hk23⟩
    have ka24 := (Kp.then0 ka10 hk23)
    refine s_e (e_call ca69 (args := [(.func (.func 98) #[] #[(Vp w8.heap.size 0)])]) rfl (collect_nil_b hb22)) rfl ?_
    rintro _ w25 ⟨rfl, hk26⟩
    have ka27 := (Kp.then0 ka24 hk26)
    have hf28 := (SesIs.k0 (SesIs.k0 (SesIs.k0 h hk9) hk23) hk26)
    refine s_e (e_call ca68 (args := [(Vp g.tb 0), (.slice none 0 0)]) rfl (slist_nil hf28)) rfl ?_
    rintro _ w29 ⟨rfl, hk30⟩
    have ka31 := (Kp.then0 ka27 hk30)
    refine s_y (y_assign (v := (.slice none 0 0)) rfl) rfl ?_
    refine s_nil (hK16 _ _ (genC [(4, (.slice none 0 0))] ⟨rfl, trivial⟩ ?_))
    clear hK16; rintro E ⟨g32, -⟩
    refine ret (hret _ _ [(.slice none 0 0)] ⟨g32, trivial⟩ ?_)
    have hz9 : (st.l.filter fun p => decide (p.1.binding = b)) = [] := List.map_eq_nil_iff.1 hof9.nil_eq.symm; unfold ofS; rw [hz9]; exact ⟨⟨[], .nil, .nil, .inl ⟨rfl, rfl⟩⟩, ka31⟩
  | some v20 =>
    obtain ⟨e9, hf9, hv9⟩ := oml_get c19; subst hv9; have he9 := List.mem_of_find?_eq_some hf9; have hi9 := h.oin e9 he9; rw [hf9] at hof9; simp only at hof9
    refine s_y (y_lookup_some kf3 Tryd.underlying113 ze120 (MapOn.now hf18) rfl rfl (show inI b from inI_of (by omega) (by omega)) c19) rfl ?_
    refine s_e (e_call ca70 (args := [(.map (some e9.2.1))]) rfl (keys_spec_b (some e9.2.1) _)) rfl ?_
    rintro _ w33 ⟨rfl, hb34, hk35⟩
    have ka36 := (Kp.then0 ka10 hk35)
    have hf37 := ((hi9.kp hk9 id).kp hk35 id)
    refine s_e (e_call ca69 (args := [(.func (.func 98) #[] #[(Vp w8.heap.size 0)])]) rfl (collect_spec_b hb34 hf37 (by have h9 := hof9.length_eq; rw [List.length_map, List.length_map] at h9; have h8 : (st.l.filter fun p => decide (p.1.binding = b)).length ≤ st.l.length := List.length_filter_le _ _; omega))) rfl ?_
    rintro _ w38 ⟨⟨ks39, hp40, ⟨hz46, rfl⟩ | ⟨rb42, cap43, rfl, he44, hf45⟩⟩, hk41⟩
    · have ka47 := (Kp.then0 ka36 hk41)
      have hf48 := (SesIs.k0 (SesIs.k0 (SesIs.k0 h hk9) hk35) hk41)
      refine s_e (e_call ca68 (args := [(Vp g.tb 0), (.slice none 0 0)]) rfl (slist_nil hf48)) rfl ?_
      rintro _ w49 ⟨rfl, hk50⟩
      have ka51 := (Kp.then0 ka47 hk50)
      refine s_y (y_assign (v := (.slice none 0 0)) rfl) rfl ?_
      refine s_nil (hK16 _ _ (genC [(4, (.slice none 0 0))] ⟨rfl, trivial⟩ ?_))
      clear hK16; rintro E ⟨g52, -⟩
      refine ret (hret _ _ [(.slice none 0 0)] ⟨g52, trivial⟩ ?_)
      have hp9 : ks39.Perm ((st.l.filter fun p => decide (p.1.binding = b)).map (·.1.id)) := List.Perm.trans hp40 hof9; unfold ofS
      have hz9 := perm_nil_map hp9 hz46; rw [hz9]; exact ⟨⟨[], .nil, .nil, .inl ⟨rfl, rfl⟩⟩, ka51⟩
    · have ka53 := (Kp.then0 ka36 hk41)
      have hf54 := (SesIs.k0 (SesIs.k0 (SesIs.k0 h hk9) hk35) hk41)
      refine s_e (e_call ca68 (args := [(Vp g.tb 0), (.slice (some ⟨rb42, 0, none⟩) ks39.length cap43)]) rfl (slist_spec hf54 (n := ks39.length) rfl (by have h9 := (List.Perm.trans hp40 hof9).length_eq; rw [List.length_map] at h9; have h8 : (st.l.filter fun p => decide (p.1.binding = b)).length ≤ st.l.length := List.length_filter_le _ _; omega) he44 (ids_of (List.Perm.trans hp40 hof9) (fun _ h9 => (List.mem_filter.1 h9).1)))) rfl ?_
      rintro v61 w55 ⟨⟨ys56, hp57, hs58, hv59⟩, hk60⟩
      have ka62 := (Kp.then0 ka53 hk60)
      refine s_y (y_assign (v := v61) rfl) rfl ?_
      refine s_nil (hK16 _ _ (genC [(4, v61)] ⟨rfl, trivial⟩ ?_))
      clear hK16; rintro E ⟨g63, -⟩
      refine ret (hret _ _ [v61] ⟨g63, trivial⟩ ?_)
      have hp9 : ks39.Perm ((st.l.filter fun p => decide (p.1.binding = b)).map (·.1.id)) := List.Perm.trans hp40 hof9; unfold ofS
      have hz64 := (nl (nl hk9.size hk35.size) hk41.size)
      exact ⟨⟨ys56, hp57.trans ((hp9.map (sesOf st.l)).trans (by rw [sesOf_map h.ids (fun _ h9 => (List.mem_filter.1 h9).1)])), hs58, hv59.from hz64⟩, ka62⟩

theorem knows1_spec (x : Session) (a : V4) {ab : Nat} {w : World} (hab : Blk w ab #[u8 a.a, u8 a.b, u8 a.c, u8 a.d] 27) : Rets Tryd.prog 72 #[(sv x), (.pointer (some ⟨ab, 0, none⟩))] w fun v w' => v = .bool (decide (x.peer.addr = a)) ∧ K0 w w' := by
  refine enter Tryd.func72 rfl Tryd.ntmps72 rfl fun Q hret hend E hE => ?_
  have g1 : E 0 = (sv x) := hE 0
  have g2 : E 1 = (Vp ab 0) := hE 1
  clear hE
  refine seq fun K3 hK3 => ?_
  refine reg ?_
  refine s_e (e_box (v := (sv x)) g1) rfl ?_
  rintro _ w4 ⟨rfl, hb5, hk6⟩
  have ka7 : Kp (fun _ => False) w w4 := (Kp.then0 (Kp.refl _ _) hk6)
  refine s_y (y_assign (v := Vf) rfl) rfl ?_
  refine s_nil (hK3 _ _ (genC [(1, (Vp ab 0)), (2, (Vp w.heap.size 0))] ⟨g2, rfl, trivial⟩ ?_))
  clear hK3; rintro E ⟨g8, g9, -⟩
  refine seq fun K10 hK10 => ?_
  refine reg ?_
  refine s_y (y_fld fo59_2 g9) rfl ?_
  refine s_y (y_fld fo34_0 rfl) rfl ?_
  refine s_y (y_load (v := (v4 x.peer.addr)) rfl (rd_agg (vs := [(u8 x.peer.addr.a), (u8 x.peer.addr.b), (u8 x.peer.addr.c), (u8 x.peer.addr.d)]) ag27 (On.now hb5) (by kernel_rfl) rfl)) rfl ?_
  have hb11 := (hk6.get0 hab)
  refine s_y (y_load (v := (v4 a)) g8 (rd_agg (vs := [(u8 a.a), (u8 a.b), (u8 a.c), (u8 a.d)]) ag27 (On.now hb11) (by kernel_rfl) rfl)) rfl ?_
  refine s_y (y_eqT (eq27 9998) eg27 (x := x.peer.addr) (y := a) rfl rfl ⟨_, rfl⟩ ⟨_, rfl⟩) rfl ?_
  refine s_y (y_assign (v := (.bool (decide (x.peer.addr = a)))) rfl) rfl ?_
  refine s_nil (hK10 _ _ (genC [(3, (.bool (decide (x.peer.addr = a))))] ⟨rfl, trivial⟩ ?_))
  clear hK10; rintro E ⟨g12, -⟩
  refine ret (hret _ _ [(.bool (decide (x.peer.addr = a)))] ⟨g12, trivial⟩ ?_)
  exact ⟨rfl, ka7⟩

theorem any_take {ys : List Session} {f : Session → Bool} {i : Nat} {x : Session} (hx : ys[i]? = some x) (h : (ys.take i).any f = false) (hf : f x = false) : (ys.take (i + 1)).any f = false := by
  rw [List.take_add_one, List.any_append, h, hx]; simp [hf]
theorem ifn_nil (a : V4) {ab : Nat} {w : World} (hab : Blk w ab #[u8 a.a, u8 a.b, u8 a.c, u8 a.d] 27)  : Rets Tryd.prog 99 #[(.slice none 0 0), (.func (.func 72) #[] #[(.pointer (some ⟨ab, 0, none⟩))])] w fun v w' => v = .int .i64 (-1) ∧ K0 w w' := by
  refine enter Tryd.func99 rfl Tryd.ntmps99 rfl fun Q hret hend E hE => ?_
  have g1 : E 0 = (.slice none 0 0) := hE 0
  have g2 : E 1 = (.func (.func 72) #[] #[(Vp ab 0)]) := hE 1
  clear hE
  have _h9 := hab
  refine seq fun K3 hK3 => ?_
  refine reg ?_
  refine s_y (y_assign (v := (Vi 0)) rfl) rfl ?_
  refine s_nil (hK3 _ _ (genC [(0, (.slice none 0 0)), (1, (.func (.func 72) #[] #[(Vp ab 0)]))] ⟨g1, g2, trivial⟩ ?_))
  clear hK3; rintro E ⟨g4, g5, -⟩
  refine seq fun K6 hK6 => ?_
  refine seq fun K7 hK7 => ?_
  refine reg ?_
  refine s_y (y_move (v := (.slice none 0 0)) g4) rfl ?_
  refine s_y (y_lenS so63 rfl) rfl ?_
  refine s_y (y_move (v := (Vi 0)) rfl) rfl ?_
  refine s_nil (hK7 _ _ (genC [(0, (.slice none 0 0)), (1, (.func (.func 72) #[] #[(Vp ab 0)])), (7, (Vi (((0 : Nat) : Int)))), (8, (Vi 0))] ⟨g4, g5, rfl, rfl, trivial⟩ ?_))
  clear hK7; rintro E ⟨g8, g9, g10, g11, -⟩
  refine block ?_
  refine loopG (X := Nat) (fun q_ E w_ => Has E [(0, (.slice none 0 0)), (1, (.func (.func 72) #[] #[(Vp ab 0)])), (7, (Vi (((0 : Nat) : Int)))), (8, (Vi (((q_ : Nat) : Int))))] ∧ Kp (fun _ => False) w w_ ∧ (q_ = 0)) (fun q_ => q_) 0 ⟨⟨g8, g9, g10, g11, trivial⟩, Kp.refl _ _, (show 0 = 0 from rfl)⟩ ?_
  rintro i E w16 ⟨⟨g12, g13, g14, g15, -⟩, hk17, hi19⟩ K18 hK18
  replace hi19 : i = 0 := hi19
  have ka20 : Kp (fun _ => False) w w16 := (Kp.then0 (Kp.refl _ _) hk17)
  refine seq fun K21 hK21 => ?_
  refine reg ?_
  refine s_y (y_lss g15 g14) rfl ?_
  refine s_nil (hK21 _ _ (genC [(0, (.slice none 0 0)), (1, (.func (.func 72) #[] #[(Vp ab 0)])), (7, (Vi (((0 : Nat) : Int)))), (8, (Vi (((i : Nat) : Int)))), (9, (.bool (decide ((((i : Nat) : Int) : Int) < ((0 : Nat) : Int)))))] ⟨g12, g13, g14, g15, rfl, trivial⟩ ?_))
  clear hK21; rintro E ⟨g22, g23, g24, g25, g26, -⟩
  refine seq fun K27 hK27 => ?_
  refine cond_d g26 (fun c28 => ?_) (fun c28 => ?_)
  · omega
  · refine exit (hK6 _ _ (genC [] trivial ?_))
    clear hK6; rintro E -
    refine seq fun K29 hK29 => ?_
    refine reg ?_
    refine s_y (y_assign (v := (Vi (-1))) rfl) rfl ?_
    refine s_nil (hK29 _ _ (genC [(4, (Vi (-1)))] ⟨rfl, trivial⟩ ?_))
    clear hK29; rintro E ⟨g30, -⟩
    refine ret (hret _ _ [(Vi (-1))] ⟨g30, trivial⟩ ?_)
    exact ⟨rfl, ka20⟩

theorem ifn_spec (a : V4) {ab : Nat} {w : World} (hab : Blk w ab #[u8 a.a, u8 a.b, u8 a.c, u8 a.d] 27) (ys : List Session) {rb n c : Nat} (hn : n = ys.length) (hbig : ys.length ≤ 1000000) (hy : Elts Session.cs 9 w rb 0 ys)  : Rets Tryd.prog 99 #[(.slice (some ⟨rb, 0, none⟩) n c), (.func (.func 72) #[] #[(.pointer (some ⟨ab, 0, none⟩))])] w fun v w' => (((ys.any fun x => decide (x.peer.addr = a)) = true ∧ ∃ r : Nat, v = .int .i64 (r : Nat)) ∨ ((ys.any fun x => decide (x.peer.addr = a)) = false ∧ v = .int .i64 (-1))) ∧ K0 w w' := by
  refine enter Tryd.func99 rfl Tryd.ntmps99 rfl fun Q hret hend E hE => ?_
  have g1 : E 0 = (.slice (some ⟨rb, 0, none⟩) n c) := hE 0
  have g2 : E 1 = (.func (.func 72) #[] #[(Vp ab 0)]) := hE 1
  clear hE
  refine seq fun K3 hK3 => ?_
  refine reg ?_
  refine s_y (y_assign (v := (Vi 0)) rfl) rfl ?_
  refine s_nil (hK3 _ _ (genC [(0, (.slice (some ⟨rb, 0, none⟩) n c)), (1, (.func (.func 72) #[] #[(Vp ab 0)]))] ⟨g1, g2, trivial⟩ ?_))
  clear hK3; rintro E ⟨g4, g5, -⟩
  refine seq fun K6 hK6 => ?_
  refine seq fun K7 hK7 => ?_
  refine reg ?_
  refine s_y (y_move (v := (.slice (some ⟨rb, 0, none⟩) n c)) g4) rfl ?_
  refine s_y (y_lenS so63 rfl) rfl ?_
  refine s_y (y_move (v := (Vi 0)) rfl) rfl ?_
  refine s_nil (hK7 _ _ (genC [(0, (.slice (some ⟨rb, 0, none⟩) n c)), (1, (.func (.func 72) #[] #[(Vp ab 0)])), (7, (Vi (((n : Nat) : Int)))), (8, (Vi 0))] ⟨g4, g5, rfl, rfl, trivial⟩ ?_))
  clear hK7; rintro E ⟨g8, g9, g10, g11, -⟩
  refine block ?_
  refine loopG (X := Nat) (fun q_ E w_ => Has E [(0, (.slice (some ⟨rb, 0, none⟩) n c)), (1, (.func (.func 72) #[] #[(Vp ab 0)])), (7, (Vi (((n : Nat) : Int)))), (8, (Vi (((q_ : Nat) : Int))))] ∧ Kp (fun _ => False) w w_ ∧ (q_ ≤ ys.length) ∧ ((ys.take q_).any (fun x => decide (x.peer.addr = a)) = false)) (fun q_ => (ys.length - q_)) 0 ⟨⟨g8, g9, g10, g11, trivial⟩, Kp.refl _ _, (show 0 ≤ ys.length from (Nat.zero_le _)), (show (ys.take 0).any (fun x => decide (x.peer.addr = a)) = false from (by simp))⟩ ?_
  rintro i E w16 ⟨⟨g12, g13, g14, g15, -⟩, hk17, hi19, hi20⟩ K18 hK18
  replace hi19 : i ≤ ys.length := hi19
  replace hi20 : (ys.take i).any (fun x => decide (x.peer.addr = a)) = false := hi20
  have ka21 : Kp (fun _ => False) w w16 := (Kp.then0 (Kp.refl _ _) hk17)
  have hi9 := hi19; have ha9 := hi20
  refine seq fun K22 hK22 => ?_
  refine reg ?_
  refine s_y (y_lss g15 g14) rfl ?_
  refine s_nil (hK22 _ _ (genC [(0, (.slice (some ⟨rb, 0, none⟩) n c)), (1, (.func (.func 72) #[] #[(Vp ab 0)])), (7, (Vi (((n : Nat) : Int)))), (8, (Vi (((i : Nat) : Int)))), (9, (.bool (decide ((((i : Nat) : Int) : Int) < ((n : Nat) : Int)))))] ⟨g12, g13, g14, g15, rfl, trivial⟩ ?_))
  clear hK22; rintro E ⟨g23, g24, g25, g26, g27, -⟩
  refine seq fun K28 hK28 => ?_
  refine cond_d g27 (fun c29 => ?_) (fun c29 => ?_)
  · obtain ⟨x9, hx9⟩ : ∃ x, ys[i]? = some x := ⟨_, List.getElem?_eq_getElem (by omega)⟩
    refine skip (hK28 _ _ (genC [(0, (.slice (some ⟨rb, 0, none⟩) n c)), (1, (.func (.func 72) #[] #[(Vp ab 0)])), (7, (Vi (((n : Nat) : Int)))), (8, (Vi (((i : Nat) : Int))))] ⟨g23, g24, g25, g26, trivial⟩ ?_))
    clear hK28; rintro E ⟨g30, g31, g32, g33, -⟩
    refine seq fun K34 hK34 => ?_
    refine block ?_
    refine seq fun K35 hK35 => ?_
    refine reg ?_
    refine s_y (y_move (v := (Vi (((i : Nat) : Int)))) g33) rfl ?_
    refine s_y (y_assign (v := (Vi (((i : Nat) : Int)))) rfl) rfl ?_
    refine s_nil (hK35 _ _ (genC [(0, (.slice (some ⟨rb, 0, none⟩) n c)), (1, (.func (.func 72) #[] #[(Vp ab 0)])), (5, (Vi (((i : Nat) : Int)))), (7, (Vi (((n : Nat) : Int)))), (8, (Vi (((i : Nat) : Int))))] ⟨g30, g31, rfl, g32, g33, trivial⟩ ?_))
    clear hK35; rintro E ⟨g36, g37, g38, g39, g40, -⟩
    refine seq fun K41 hK41 => ?_
    refine reg ?_
    refine s_y (y_move (v := (.func (.func 72) #[] #[(Vp ab 0)])) g37) rfl ?_
    refine s_y (y_move (v := (.slice (some ⟨rb, 0, none⟩) n c)) g36) rfl ?_
    refine s_y (y_move (v := (Vi (((i : Nat) : Int)))) g38) rfl ?_
    refine s_y (y_idx so63 sz59 rfl (i := i) rfl (by omega)) rfl ?_
    have hf42 := (hy.kp hk17 id)
    refine s_y (y_load (v := (.agg #[.int .i64 (x9.id), .int .i64 (x9.binding), u8 x9.peer.addr.a, u8 x9.peer.addr.b, u8 x9.peer.addr.c, u8 x9.peer.addr.d, .int .i64 (x9.peer.port), .int .i64 (x9.state), .int .i64 (x9.due)])) rfl (rd_el ag59 (EltsOn.now hf42) hx9 (vs := x9.cs) rfl)) rfl ?_
    have hb43 := (hk17.get0 hab)
    refine s_e (e_callV ca72 rfl (args := [(.agg #[.int .i64 (x9.id), .int .i64 (x9.binding), u8 x9.peer.addr.a, u8 x9.peer.addr.b, u8 x9.peer.addr.c, u8 x9.peer.addr.d, .int .i64 (x9.peer.port), .int .i64 (x9.state), .int .i64 (x9.due)]), (Vp ab 0)]) rfl (knows1_spec x9 a hb43)) rfl ?_
    rintro _ w44 ⟨rfl, hk45⟩
    have ka46 := (Kp.then0 ka21 hk45)
    refine s_nil (hK41 _ _ (genC [(0, (.slice (some ⟨rb, 0, none⟩) n c)), (1, (.func (.func 72) #[] #[(Vp ab 0)])), (5, (Vi (((i : Nat) : Int)))), (7, (Vi (((n : Nat) : Int)))), (8, (Vi (((i : Nat) : Int)))), (16, (.bool (decide (x9.peer.addr = a))))] ⟨g36, g37, g38, g39, g40, rfl, trivial⟩ ?_))
    clear hK41; rintro E ⟨g47, g48, g49, g50, g51, g52, -⟩
    refine cond_b g52 (fun c53 => ?_) (fun c53 => ?_)
    · refine seq fun K54 hK54 => ?_
      refine reg ?_
      refine s_y (y_move (v := (Vi (((i : Nat) : Int)))) g49) rfl ?_
      refine s_y (y_assign (v := (Vi (((i : Nat) : Int)))) rfl) rfl ?_
      refine s_nil (hK54 _ _ (genC [(4, (Vi (((i : Nat) : Int))))] ⟨rfl, trivial⟩ ?_))
      clear hK54; rintro E ⟨g55, -⟩
      refine ret (hret _ _ [(Vi (((i : Nat) : Int)))] ⟨g55, trivial⟩ ?_)
      exact ⟨.inl ⟨List.any_eq_true.2 ⟨x9, List.mem_of_getElem? hx9, c53⟩, i, rfl⟩, ka46⟩
    · refine skip (hK34 _ _ (genC [(0, (.slice (some ⟨rb, 0, none⟩) n c)), (1, (.func (.func 72) #[] #[(Vp ab 0)])), (7, (Vi (((n : Nat) : Int)))), (8, (Vi (((i : Nat) : Int))))] ⟨g47, g48, g50, g51, trivial⟩ ?_))
      clear hK34; rintro E ⟨g56, g57, g58, g59, -⟩
      refine reg ?_
      refine s_y (y_add g59 rfl (c := ((i : Nat) : Int) + 1) (by omega) rfl) rfl ?_
      refine s_y (y_move (v := (Vi (((i : Nat) : Int) + 1))) rfl) rfl ?_
      have kc60 : Kp (fun _ => False) w w16 := (Kp.then0 (Kp.refl _ _) hk17)
      have kc61 : Kp (fun _ => False) w w44 := (Kp.then0 kc60 hk45)
      exact s_nil (hK18 (i + 1) _ _ ⟨⟨g56, g57, g58, rfl, trivial⟩, kc61, (show (i + 1) ≤ ys.length from (by omega)), (show (ys.take (i + 1)).any (fun x => decide (x.peer.addr = a)) = false from (any_take hx9 ha9 c53))⟩ (by show (ys.length - (i + 1)) < (ys.length - i); omega))
  · have hie9 : i = ys.length := by omega
    refine exit (hK6 _ _ (genC [] trivial ?_))
    clear hK6; rintro E -
    refine seq fun K62 hK62 => ?_
    refine reg ?_
    refine s_y (y_assign (v := (Vi (-1))) rfl) rfl ?_
    refine s_nil (hK62 _ _ (genC [(4, (Vi (-1)))] ⟨rfl, trivial⟩ ?_))
    clear hK62; rintro E ⟨g63, -⟩
    refine ret (hret _ _ [(Vi (-1))] ⟨g63, trivial⟩ ?_)
    exact ⟨.inr ⟨by rw [hie9, List.take_length] at ha9; exact ha9, rfl⟩, ka21⟩

theorem cfn_nil (a : V4) {ab : Nat} {w : World} (hab : Blk w ab #[u8 a.a, u8 a.b, u8 a.c, u8 a.d] 27)  : Rets Tryd.prog 71 #[(.slice none 0 0), (.func (.func 72) #[] #[(.pointer (some ⟨ab, 0, none⟩))])] w fun v w' => v = .bool false ∧ K0 w w' := by
  refine enter Tryd.func71 rfl Tryd.ntmps71 rfl fun Q hret hend E hE => ?_
  have g1 : E 0 = (.slice none 0 0) := hE 0
  have g2 : E 1 = (.func (.func 72) #[] #[(Vp ab 0)]) := hE 1
  clear hE
  refine seq fun K3 hK3 => ?_
  refine reg ?_
  refine s_y (y_assign (v := Vf) rfl) rfl ?_
  refine s_nil (hK3 _ _ (genC [(0, (.slice none 0 0)), (1, (.func (.func 72) #[] #[(Vp ab 0)]))] ⟨g1, g2, trivial⟩ ?_))
  clear hK3; rintro E ⟨g4, g5, -⟩
  refine seq fun K6 hK6 => ?_
  refine reg ?_
  refine s_y (y_move (v := (.slice none 0 0)) g4) rfl ?_
  refine s_y (y_move (v := (.func (.func 72) #[] #[(Vp ab 0)])) g5) rfl ?_
  refine s_e (e_call ca99 (args := [(.slice none 0 0), (.func (.func 72) #[] #[(Vp ab 0)])]) rfl (ifn_nil a hab)) rfl ?_
  rintro _ w7 ⟨rfl, hk8⟩
  have ka9 : Kp (fun _ => False) w w7 := (Kp.then0 (Kp.refl _ _) hk8)
  refine s_y (y_geq rfl rfl) rfl ?_
  refine s_y (y_assign (v := Vf) rfl) rfl ?_
  refine s_nil (hK6 _ _ (genC [(4, Vf)] ⟨rfl, trivial⟩ ?_))
  clear hK6; rintro E ⟨g10, -⟩
  refine ret (hret _ _ [Vf] ⟨g10, trivial⟩ ?_)
  exact ⟨rfl, ka9⟩

theorem cfn_spec (a : V4) {ab : Nat} {w : World} (hab : Blk w ab #[u8 a.a, u8 a.b, u8 a.c, u8 a.d] 27) (ys : List Session) {rb n c : Nat} (hn : n = ys.length) (hbig : ys.length ≤ 1000000) (hy : Elts Session.cs 9 w rb 0 ys)  : Rets Tryd.prog 71 #[(.slice (some ⟨rb, 0, none⟩) n c), (.func (.func 72) #[] #[(.pointer (some ⟨ab, 0, none⟩))])] w fun v w' => v = .bool (ys.any fun x => decide (x.peer.addr = a)) ∧ K0 w w' := by
  refine enter Tryd.func71 rfl Tryd.ntmps71 rfl fun Q hret hend E hE => ?_
  have g1 : E 0 = (.slice (some ⟨rb, 0, none⟩) n c) := hE 0
  have g2 : E 1 = (.func (.func 72) #[] #[(Vp ab 0)]) := hE 1
  clear hE
  refine seq fun K3 hK3 => ?_
  refine reg ?_
  refine s_y (y_assign (v := Vf) rfl) rfl ?_
  refine s_nil (hK3 _ _ (genC [(0, (.slice (some ⟨rb, 0, none⟩) n c)), (1, (.func (.func 72) #[] #[(Vp ab 0)]))] ⟨g1, g2, trivial⟩ ?_))
  clear hK3; rintro E ⟨g4, g5, -⟩
  refine seq fun K6 hK6 => ?_
  refine reg ?_
  refine s_y (y_move (v := (.slice (some ⟨rb, 0, none⟩) n c)) g4) rfl ?_
  refine s_y (y_move (v := (.func (.func 72) #[] #[(Vp ab 0)])) g5) rfl ?_
  refine s_e (e_call ca99 (args := [(.slice (some ⟨rb, 0, none⟩) n c), (.func (.func 72) #[] #[(Vp ab 0)])]) rfl (ifn_spec a hab ys hn hbig hy)) rfl ?_
  rintro _ w7 ⟨⟨ha9, r10, rfl⟩ | ⟨ha11, rfl⟩, hk8⟩
  · have ka12 : Kp (fun _ => False) w w7 := (Kp.then0 (Kp.refl _ _) hk8)
    refine s_y (y_geq rfl rfl) rfl ?_
    refine s_y (y_assign (v := (.bool (decide ((0 : Int) ≤ ((r10 : Nat) : Int))))) rfl) rfl ?_
    refine s_nil (hK6 _ _ (genC [(4, (.bool (decide ((0 : Int) ≤ ((r10 : Nat) : Int)))))] ⟨rfl, trivial⟩ ?_))
    clear hK6; rintro E ⟨g13, -⟩
    refine ret (hret _ _ [(.bool (decide ((0 : Int) ≤ ((r10 : Nat) : Int))))] ⟨g13, trivial⟩ ?_)
    exact ⟨by rw [ha9]; first | rfl | (congr 1; exact decide_eq_true (by omega)), ka12⟩
  · have ka14 : Kp (fun _ => False) w w7 := (Kp.then0 (Kp.refl _ _) hk8)
    refine s_y (y_geq rfl rfl) rfl ?_
    refine s_y (y_assign (v := Vf) rfl) rfl ?_
    refine s_nil (hK6 _ _ (genC [(4, Vf)] ⟨rfl, trivial⟩ ?_))
    clear hK6; rintro E ⟨g15, -⟩
    refine ret (hret _ _ [Vf] ⟨g15, trivial⟩ ?_)
    exact ⟨by rw [ha11]; first | rfl | (congr 1; exact decide_eq_true (by omega)), ka14⟩

theorem lpc {a b : Value} {l m : List Value} (h : a = b) (h2 : l = m) : a :: l = b :: m := by rw [h, h2]
theorem any_perm {α : Type} {f : α → Bool} {x y : List α} (h : x.Perm y) : x.any f = y.any f := by
  rw [Bool.eq_iff_iff, List.any_eq_true, List.any_eq_true]; exact ⟨fun ⟨a, h1, h2⟩ => ⟨a, h.mem_iff.1 h1, h2⟩, fun ⟨a, h1, h2⟩ => ⟨a, h.mem_iff.2 h1, h2⟩⟩
theorem sknows_spec {g : SesG} {st : SesS} {w : World} (h : SesIs g st w) (hc : st.l.length ≤ 1000000) (b : Int) (a : V4) (hb : -9223372036854775808 ≤ b ∧ b ≤ 9223372036854775807)  : Rets Tryd.prog 32 #[(.pointer (some ⟨g.tb, 0, none⟩)), (.int .i64 b), (v4 a)] w fun v w' => v = .bool ((ofS st.l b).any fun x => decide (x.peer.addr = a)) ∧ K0 w w' := by
  refine enter Tryd.func32 rfl Tryd.ntmps32 rfl fun Q hret hend E hE => ?_
  have g1 : E 0 = (Vp g.tb 0) := hE 0
  have g2 : E 1 = (Vi b) := hE 1
  have g3 : E 2 = (v4 a) := hE 2
  clear hE
  have hb0 := h.blk; have hm0 := h.map; have hT0 := h.tb; have hx0 := h.ix; have hq0 := h.q; have ho0 := h.omap
  refine seq fun K4 hK4 => ?_
  refine reg ?_
  refine s_e (e_box (v := (v4 a)) g3) rfl ?_
  rintro _ w5 ⟨rfl, hb6, hk7⟩
  have ka8 : Kp (fun _ => False) w w5 := (Kp.then0 (Kp.refl _ _) hk7)
  refine s_y (y_assign (v := Vf) rfl) rfl ?_
  refine s_nil (hK4 _ _ (genC [(0, (Vp g.tb 0)), (1, (Vi b)), (5, (Vp w.heap.size 0))] ⟨g1, g2, rfl, trivial⟩ ?_))
  clear hK4; rintro E ⟨g9, g10, g11, -⟩
  refine seq fun K12 hK12 => ?_
  refine reg ?_
  refine s_y (y_move (v := (Vp g.tb 0)) g9) rfl ?_
  refine s_y (y_move (v := (Vi b)) g10) rfl ?_
  have hf13 := (SesIs.k0 h hk7)
  refine s_e (e_call ca31 (args := [(Vp g.tb 0), (Vi b)]) rfl (sof_spec hf13 hc b hb)) rfl ?_
  rintro _ w14 ⟨⟨ys15, hp16, hs17, ⟨hz18, rfl⟩ | ⟨rb19, cap20, rfl, hC21, hf22⟩⟩, hk23⟩
  · have ka24 := (Kp.then0 ka8 hk23)
    refine s_y (y_makeFunc (f := []) (c := [(Vp w.heap.size 0)]) rfl (lpc g11 rfl)) rfl ?_
    have hb25 := (hk23.get0 hb6)
    refine s_e (e_call ca71 (args := [(.slice none 0 0), (.func (.func 72) #[] #[(Vp w.heap.size 0)])]) rfl (cfn_nil a hb25)) rfl ?_
    rintro _ w26 ⟨rfl, hk27⟩
    have ka28 := (Kp.then0 ka24 hk27)
    refine s_y (y_assign (v := Vf) rfl) rfl ?_
    refine s_nil (hK12 _ _ (genC [(6, Vf)] ⟨rfl, trivial⟩ ?_))
    clear hK12; rintro E ⟨g29, -⟩
    refine ret (hret _ _ [Vf] ⟨g29, trivial⟩ ?_)
    exact ⟨by rw [← any_perm hp16, hz18]; rfl, ka28⟩
  · have ka30 := (Kp.then0 ka8 hk23)
    refine s_y (y_makeFunc (f := []) (c := [(Vp w.heap.size 0)]) rfl (lpc g11 rfl)) rfl ?_
    have hb31 := (hk23.get0 hb6)
    refine s_e (e_call ca71 (args := [(.slice (some ⟨rb19, 0, none⟩) ys15.length cap20), (.func (.func 72) #[] #[(Vp w.heap.size 0)])]) rfl (cfn_spec a hb31 ys15 rfl (nl (by rw [List.Perm.length_eq hp16, ofS, List.length_map]; exact List.length_filter_le _ _) hc) (OwnC.elts hC21))) rfl ?_
    rintro _ w32 ⟨rfl, hk33⟩
    have ka34 := (Kp.then0 ka30 hk33)
    refine s_y (y_assign (v := (.bool ((ys15.any fun x => decide (x.peer.addr = a))))) rfl) rfl ?_
    refine s_nil (hK12 _ _ (genC [(6, (.bool ((ys15.any fun x => decide (x.peer.addr = a)))))] ⟨rfl, trivial⟩ ?_))
    clear hK12; rintro E ⟨g35, -⟩
    refine ret (hret _ _ [(.bool ((ys15.any fun x => decide (x.peer.addr = a))))] ⟨g35, trivial⟩ ?_)
    exact ⟨by rw [← any_perm hp16]; rfl, ka34⟩

end Go.Proofs.YtdcnblafepgheaaDoor
