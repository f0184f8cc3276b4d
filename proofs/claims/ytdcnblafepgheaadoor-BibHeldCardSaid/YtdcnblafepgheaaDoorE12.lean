/-
  Written by a program (wip/walks).
-/
import Derived.Test.YtdcnblafepgheaaDoorE11
namespace Go.Proofs.YtdcnblafepgheaaDoor
open Go Go.V
set_option maxRecDepth 100000
def cutL (l : List (Binding × Nat)) (id : Int) : List (Binding × Nat) := l.filter fun q => !decide (q.1.id = id)
def updL (l : List (Binding × Nat)) (id : Int) (f : Binding → Binding) : List (Binding × Nat) := l.map fun q => if q.1.id = id then (f q.1, q.2) else q
theorem idl_cut (l : List (Binding × Nat)) (id : Int) : adel (idl l) id = idl (cutL l id) := by
  unfold adel idl cutL
  rw [List.filter_map]; rfl
theorem find_congr {α : Type} {l : List α} {f g : α → Bool} (h : ∀ a ∈ l, f a = g a) : l.find? f = l.find? g := by
  induction l with
  | nil => rfl
  | cons a l ih =>
    rw [List.find?_cons, List.find?_cons, h a (by simp), ih fun b hb => h b (by simp [hb])]
theorem cut_len {l : List (Binding × Nat)} (hn : (l.map (·.1.id)).Nodup) {q : Binding × Nat} (hq : q ∈ l) : (cutL l q.1.id).length + 1 = l.length := by
  induction l with
  | nil => cases hq
  | cons x l ih =>
    rw [List.map_cons, List.nodup_cons] at hn
    unfold cutL at *
    rcases List.mem_cons.1 hq with e | hq
    · subst e
      have : l.filter (fun q' => !decide (q'.1.id = q.1.id)) = l := List.filter_eq_self.2 fun a ha => by
        have : a.1.id ≠ q.1.id := fun e => hn.1 (List.mem_map.2 ⟨a, ha, e⟩)
        simp [this]
      rw [List.filter_cons_of_neg (by simp), this]; rfl
    · have : x.1.id ≠ q.1.id := fun e => hn.1 (List.mem_map.2 ⟨q, hq, e.symm⟩)
      rw [List.filter_cons_of_pos (by simp [this]), List.length_cons, ih hn.2 hq]; rfl
theorem same_q' {l : List (Binding × Nat)} (hn : (l.map (·.1.id)).Nodup) {q q' : Binding × Nat} (hq : q ∈ l) (hq' : q' ∈ l) (h : q'.1.id = q.1.id) : q' = q := by
  induction l with
  | nil => cases hq
  | cons x l ih =>
    rw [List.map_cons, List.nodup_cons] at hn
    rcases List.mem_cons.1 hq with e1 | e1 <;> rcases List.mem_cons.1 hq' with e2 | e2
    · rw [e1, e2]
    · exfalso; exact hn.1 (List.mem_map.2 ⟨q', e2, by rw [h, e1]⟩)
    · exfalso; exact hn.1 (List.mem_map.2 ⟨q, e1, by rw [← h, e2]⟩)
    · exact ih hn.2 e1 e2
theorem inM_cut {l : List (Binding × Nat)} (hn : (l.map (·.1.id)).Nodup) {q : Binding × Nat} (hq : q ∈ l) (hu : ∀ q' ∈ l, k6 q'.1.proto q'.1.inn = k6 q.1.proto q.1.inn → q' = q) : inM (cutL l q.1.id) = fun k => if k = k6 q.1.proto q.1.inn then none else inM l k := by
  funext k
  unfold inM cutL
  rw [List.find?_filter]
  by_cases e : k = k6 q.1.proto q.1.inn
  · rw [if_pos e, List.find?_eq_none.2]
    · rfl
    · intro x hx hc
      simp only [Bool.not_eq_true', decide_eq_false_iff_not, decide_eq_true_eq] at hc
      exact hc.1 (by rw [hu x hx (hc.2.trans e)])
  · rw [if_neg e]
    congr 1
    refine find_congr fun x hx => ?_
    by_cases h2 : k6 x.1.proto x.1.inn = k
    · have : x.1.id ≠ q.1.id := fun e2 => e (by rw [← h2, same_q' hn hq hx e2])
      simp [this]
    · simp [h2]
theorem outM_cut {l : List (Binding × Nat)} (hn : (l.map (·.1.id)).Nodup) {q : Binding × Nat} (hq : q ∈ l) (hu : ∀ q' ∈ l, k4 q'.1.proto q'.1.out = k4 q.1.proto q.1.out → q' = q) : outM (cutL l q.1.id) = fun k => if k = k4 q.1.proto q.1.out then none else outM l k := by
  funext k
  unfold outM cutL
  rw [List.find?_filter]
  by_cases e : k = k4 q.1.proto q.1.out
  · rw [if_pos e, List.find?_eq_none.2]
    · rfl
    · intro x hx hc
      simp only [Bool.not_eq_true', decide_eq_false_iff_not, decide_eq_true_eq] at hc
      exact hc.1 (by rw [hu x hx (hc.2.trans e)])
  · rw [if_neg e]
    congr 1
    refine find_congr fun x hx => ?_
    by_cases h2 : k4 x.1.proto x.1.out = k
    · have : x.1.id ≠ q.1.id := fun e2 => e (by rw [← h2, same_q' hn hq hx e2])
      simp [this]
    · simp [h2]
theorem look_some_in {l : List (Binding × Nat)} {q : Binding × Nat} (hq : q ∈ l) (hu : ∀ q' ∈ l, k6 q'.1.proto q'.1.inn = k6 q.1.proto q.1.inn → q' = q) : inM l (k6 q.1.proto q.1.inn) = some q.1.id := by
  unfold inM
  cases h : l.find? fun x => decide (k6 x.1.proto x.1.inn = k6 q.1.proto q.1.inn) with
  | none => have := List.find?_eq_none.1 h q hq; simp at this
  | some x => have h1 := List.find?_some h; simp only [decide_eq_true_eq] at h1; rw [hu x (look_mem h) h1]; rfl
theorem look_some_out {l : List (Binding × Nat)} {q : Binding × Nat} (hq : q ∈ l) (hu : ∀ q' ∈ l, k4 q'.1.proto q'.1.out = k4 q.1.proto q.1.out → q' = q) : outM l (k4 q.1.proto q.1.out) = some q.1.id := by
  unfold outM
  cases h : l.find? fun x => decide (k4 x.1.proto x.1.out = k4 q.1.proto q.1.out) with
  | none => have := List.find?_eq_none.1 h q hq; simp at this
  | some x => have h1 := List.find?_some h; simp only [decide_eq_true_eq] at h1; rw [hu x (look_mem h) h1]; rfl
theorem cutL_sub (l : List (Binding × Nat)) (id : Int) : (cutL l id).Sublist l := List.filter_sublist
theorem BibIs.cut {g : BibG} {st : BibS} {w w' : World} (h : BibIs g st w) (kp : Kp (F6 g) w w') {q : Binding × Nat} (hq : q ∈ st.l)
    (hu : ∀ q' ∈ st.l, k6 q'.1.proto q'.1.inn = k6 q.1.proto q.1.inn → q' = q) (hv : ∀ q' ∈ st.l, k4 q'.1.proto q'.1.out = k4 q.1.proto q.1.out → q' = q)
    (blk : Blk w' g.tb #[.int .i64 g.max, .int .i64 st.last, u8 g.first.a, u8 g.first.b, u8 g.first.c, u8 g.first.d, .map (some g.mb), .pointer (some ⟨g.i1.ib, 0, none⟩), .pointer (some ⟨g.i2.ib, 0, none⟩), .pointer (some ⟨(g.p 0).pb, 0, none⟩), .pointer (some ⟨(g.p 1).pb, 0, none⟩), .pointer (some ⟨(g.p 2).pb, 0, none⟩)] 95)
    (map : MapAt (fun n : Int => .int .i64 n) (fun p : Nat => Value.pointer (some ⟨p, 0, none⟩)) inI w' g.mb (adel (idl st.l) q.1.id))
    (i1 : IxIs g.i1 (fun k => if k = k6 q.1.proto q.1.inn then none else inM st.l k) (st.l.length - 1) w') (i2 : IxIs g.i2 (fun k => if k = k4 q.1.proto q.1.out then none else outM st.l k) (st.l.length - 1) w') : BibIs g ⟨st.last, cutL st.l q.1.id, st.h⟩ w' := by
  have hlen := cut_len h.ids hq
  have hl2 : st.l.length - 1 = (cutL st.l q.1.id).length := by omega
  have hs := cutL_sub st.l q.1.id
  have hsub : (bfp g ⟨st.last, cutL st.l q.1.id, st.h⟩).Sublist (bfp g st) := (List.Sublist.refl _).append (hs.map _)
  refine ⟨blk, idl_cut st.l q.1.id ▸ map, fun x hx => h.boxes kp x (hs.subset hx), ?_, ?_, h.pools kp, h.tbF kp, hsub.nodup h.nd, fun hm => h.tbn (hsub.subset hm)⟩
  · rw [inM_cut h.ids hq hu, ← hl2]; exact i1
  · rw [outM_cut h.ids hq hv, ← hl2]; exact i2
theorem cutb_spec {g : BibG} {st : BibS} {w : World} (ok : BibOk g) (h : BibIs g st w) (q : Binding × Nat) (hq : q ∈ st.l) (b : Binding) (e1 : b.id = q.1.id) (e2 : b.proto = q.1.proto) (e3 : b.inn = q.1.inn) (e4 : b.out = q.1.out) (hu : ∀ q' ∈ st.l, k6 q'.1.proto q'.1.inn = k6 q.1.proto q.1.inn → q' = q) (hv : ∀ q' ∈ st.l, k4 q'.1.proto q'.1.out = k4 q.1.proto q.1.out → q' = q) (hr : (-9223372036854775808 ≤ q.1.proto ∧ q.1.proto ≤ 9223372036854775807) ∧ (-9223372036854775808 ≤ q.1.inn.port ∧ q.1.inn.port ≤ 9223372036854775807) ∧ (-9223372036854775808 ≤ q.1.out.port ∧ q.1.out.port ≤ 9223372036854775807))  : Rets Tryd.prog 50 #[(.pointer (some ⟨g.tb, 0, none⟩)), (bv b)] w fun v w' => v = .tuple #[] ∧ BibIs g ⟨st.last, cutL st.l q.1.id, st.h⟩ w' ∧ Kp (F6 g) w w' := by
  refine enter Tryd.func50 rfl Tryd.ntmps50 rfl fun Q hret hend E hE => ?_
  have g1 : E 0 = (Vp g.tb 0) := hE 0
  have g2 : E 1 = (bv b) := hE 1
  clear hE
  have hb0 := h.blk; have hm0 := h.map; have hT0 := h.tb; have hn1 : g.tb ≠ g.mb := blk_ne_map h.blk h.map
  obtain ⟨hr1, hr2, hr3⟩ := hr; have hq3 := h.good hq; unfold inI at hq3
  have hxi := h.ixin; have hxo := h.ixout; have hki := look_some_in hq hu; have hko := look_some_out hq hv; have hok1 := ok.n1; have hok2 := ok.n2
  rw [← e2, ← e3] at hki; rw [← e2, ← e4] at hko; rw [← e2] at hr1; rw [← e3] at hr2; rw [← e4] at hr3
  refine seq fun K3 hK3 => ?_
  refine reg ?_
  refine s_e (e_box (v := (bv b)) g2) rfl ?_
  rintro _ w4 ⟨rfl, hb5, hk6⟩
  have ka7 : Kp (fun k => k = g.tb ∨ k = g.mb ∨ k = g.i1.ib ∨ k = g.i1.sb ∨ k = g.i2.ib ∨ k = g.i2.sb) w w4 := (Kp.then0 (Kp.refl _ _) hk6)
  refine s_nil (hK3 _ _ (genC [(0, (Vp g.tb 0)), (3, (Vp w.heap.size 0))] ⟨g1, rfl, trivial⟩ ?_))
  clear hK3; rintro E ⟨g8, g9, -⟩
  refine seq fun K10 hK10 => ?_
  refine regD (· = g.mb) (.take 0 (.take 1 (.take 2 (.take 3 (.take 4 (.take 5 (.one 6 .done))))))) mixed (by kernel_rfl) fun w11 hh12 hk13 => ?_
  have ka14 := (Kp.then0 ka7 hk13)
  refine o_y rfl (y_move (v := (Vp g.tb 0)) g8) ?_
  refine o_y rfl (y_nil rfl) ?_
  refine o_y rfl (y_fld fo95_3 rfl) ?_
  refine o_y rfl (y_load (v := (.map (some g.mb))) rfl (rd_sc sc91 (On.kp (hk13.get0 (hk6.get0 hb0)) hn1) rfl)) ?_
  refine o_y rfl (y_fld fo36_0 g9) ?_
  refine o_y rfl (y_load (v := (Vi (b.id))) rfl (rd_sc sc3 (On.kp (hk13.get0 hb5) (Nat.ne_of_gt (nt (hm0.lt) (Nat.le_refl _)))) rfl)) ?_
  refine o_one ?_
  have hf15 := ((hm0.kp hk6 id).kp hk13 id)
  refine c_e0 rfl (e_delete kf3 Tryd.underlying91 hf15 rfl rfl (show inI b.id from inI_of (by omega) (by omega))) ?_
  rintro _ w16 ⟨hm17, hk18⟩
  have ka19 := (Kp.trans ka14 hk18 (fun _ _ e => (fun e => (.inr (.inl e))) e))
  have ks20 : Kp (· = g.mb) w11 w16 := (Kp.trans (Kp.refl _ _) hk18 (fun _ _ e => e))
  refine ⟨ks20, ?_⟩
  refine o_done (hK10 _ _ (genC [(0, (Vp g.tb 0)), (3, (Vp w.heap.size 0))] ⟨g8, g9, trivial⟩ ?_))
  clear hK10; rintro E ⟨g21, g22, -⟩
  refine seq fun K23 hK23 => ?_
  refine regD (fun k => k = g.i1.ib ∨ k = g.i1.sb) (.take 0 (.take 1 (.take 2 (.take 3 (.take 4 (.take 5 (.take 6 (.take 7 (.one 8 (.one 9 .done)))))))))) mixed (by kernel_rfl) fun w24 hh25 hk26 => ?_
  have ka27 := (Kp.then0 ka19 hk26)
  refine o_y rfl (y_move (v := (Vp g.tb 0)) g21) ?_
  refine o_y rfl (y_nil rfl) ?_
  refine o_y rfl (y_fld fo95_4 rfl) ?_
  refine o_y rfl (y_load (v := (Vp g.i1.ib 0)) rfl (rd_sc sc88 (On.kp (hk26.get0 (hk18.get (hk13.get0 (hk6.get0 hb0)) hn1)) (not_or.2 ⟨(blocks_ne h.nd (i := 0) (j := 2) (by decide) rfl rfl), (blocks_ne h.nd (i := 0) (j := 3) (by decide) rfl rfl)⟩)) rfl)) ?_
  refine o_y rfl (y_fld fo36_1 g22) ?_
  refine o_y rfl (y_load (v := (Vi (b.proto))) rfl (rd_sc sc3 (On.kp (hk26.get0 (hk18.get (hk13.get0 hb5) (Nat.ne_of_gt (nt (hm0.lt) (Nat.le_refl _))))) (not_or.2 ⟨(Nat.ne_of_gt (nt ((IxIs.lt hxi).1) (Nat.le_refl _))), (Nat.ne_of_gt (nt ((IxIs.lt hxi).2) (Nat.le_refl _)))⟩)) rfl)) ?_
  refine o_y rfl (y_fld fo36_2 g22) ?_
  refine o_y rfl (y_load (v := (t6 b.inn)) rfl (rd_agg (vs := b.inn.cs) ag32 (On.kp (hk26.get0 (hk18.get (hk13.get0 hb5) (Nat.ne_of_gt (nt (hm0.lt) (Nat.le_refl _))))) (not_or.2 ⟨(Nat.ne_of_gt (nt ((IxIs.lt hxi).1) (Nat.le_refl _))), (Nat.ne_of_gt (nt ((IxIs.lt hxi).2) (Nat.le_refl _)))⟩)) (by kernel_rfl) rfl)) ?_
  refine o_one ?_
  have hf28 := ((((hT0.kp hk6 id).kp hk13 id).kp hk18 (Ne.symm (bib_tb_ne h (i := 1) rfl))).kp hk26 id)
  refine c_e rfl (e_call ca80 (args := [(Vi (b.proto)), (t6 b.inn)]) rfl (key6_spec b.proto b.inn _ (by omega) (by omega) hf28)) ?_
  rintro _ w29 ⟨rfl, hk30⟩
  have ka31 := (Kp.then0 ka27 hk30)
  have ks32 : Kp (fun k => k = g.i1.ib ∨ k = g.i1.sb) w24 w29 := (Kp.then0 (Kp.refl _ _) hk30)
  refine ⟨ks32, ?_⟩
  refine o_one ?_
  have hf33 := (IxIs.kp (IxIs.kp (IxIs.kp (IxIs.kp (IxIs.kp hxi hk6 id id) hk13 id id) hk18 (blocks_ne h.nd (i := 2) (j := 1) (by decide) rfl rfl) (blocks_ne h.nd (i := 3) (j := 1) (by decide) rfl rfl)) hk26 id id) hk30 id id)
  refine c_e rfl (e_call ca65 (args := [(Vp g.i1.ib 0), (.string (k6 b.proto b.inn))]) rfl (del_spec ok.i1 hf33 _ _ hki)) ?_
  rintro _ w34 ⟨rfl, hX1, hk35⟩
  have ka36 := (Kp.trans ka31 hk35 (fun _ _ e => (fun e => e.elim (fun e => (.inr (.inr (.inl e)))) (fun e => (.inr (.inr (.inr (.inl e)))))) e))
  have ks37 := (Kp.trans ks32 hk35 (fun _ _ e => e))
  refine ⟨ks37, ?_⟩
  refine o_done (hK23 _ _ (genC [(0, (Vp g.tb 0)), (3, (Vp w.heap.size 0))] ⟨g21, g22, trivial⟩ ?_))
  clear hK23; rintro E ⟨g38, g39, -⟩
  refine regD (fun k => k = g.i2.ib ∨ k = g.i2.sb) (.take 0 (.take 1 (.take 2 (.take 3 (.take 4 (.take 5 (.take 6 (.take 7 (.one 8 (.one 9 .done)))))))))) mixed (by kernel_rfl) fun w40 hh41 hk42 => ?_
  have ka43 := (Kp.then0 ka36 hk42)
  refine o_y rfl (y_move (v := (Vp g.tb 0)) g38) ?_
  refine o_y rfl (y_nil rfl) ?_
  refine o_y rfl (y_fld fo95_5 rfl) ?_
  refine o_y rfl (y_load (v := (Vp g.i2.ib 0)) rfl (rd_sc sc88 (On.kp (hk42.get0 (hk35.get (hk30.get0 (hk26.get0 (hk18.get (hk13.get0 (hk6.get0 hb0)) hn1))) (not_or.2 ⟨(blocks_ne h.nd (i := 0) (j := 2) (by decide) rfl rfl), (blocks_ne h.nd (i := 0) (j := 3) (by decide) rfl rfl)⟩))) (not_or.2 ⟨(blocks_ne h.nd (i := 0) (j := 4) (by decide) rfl rfl), (blocks_ne h.nd (i := 0) (j := 5) (by decide) rfl rfl)⟩)) rfl)) ?_
  refine o_y rfl (y_fld fo36_1 g39) ?_
  refine o_y rfl (y_load (v := (Vi (b.proto))) rfl (rd_sc sc3 (On.kp (hk42.get0 (hk35.get (hk30.get0 (hk26.get0 (hk18.get (hk13.get0 hb5) (Nat.ne_of_gt (nt (hm0.lt) (Nat.le_refl _)))))) (not_or.2 ⟨(Nat.ne_of_gt (nt ((IxIs.lt hxi).1) (Nat.le_refl _))), (Nat.ne_of_gt (nt ((IxIs.lt hxi).2) (Nat.le_refl _)))⟩))) (not_or.2 ⟨(Nat.ne_of_gt (nt ((IxIs.lt hxo).1) (Nat.le_refl _))), (Nat.ne_of_gt (nt ((IxIs.lt hxo).2) (Nat.le_refl _)))⟩)) rfl)) ?_
  refine o_y rfl (y_fld fo36_3 g39) ?_
  refine o_y rfl (y_load (v := (t4 b.out)) rfl (rd_agg (vs := b.out.cs) ag34 (On.kp (hk42.get0 (hk35.get (hk30.get0 (hk26.get0 (hk18.get (hk13.get0 hb5) (Nat.ne_of_gt (nt (hm0.lt) (Nat.le_refl _)))))) (not_or.2 ⟨(Nat.ne_of_gt (nt ((IxIs.lt hxi).1) (Nat.le_refl _))), (Nat.ne_of_gt (nt ((IxIs.lt hxi).2) (Nat.le_refl _)))⟩))) (not_or.2 ⟨(Nat.ne_of_gt (nt ((IxIs.lt hxo).1) (Nat.le_refl _))), (Nat.ne_of_gt (nt ((IxIs.lt hxo).2) (Nat.le_refl _)))⟩)) (by kernel_rfl) rfl)) ?_
  refine o_one ?_
  have hf44 := (((hf28.kp hk30 id).kp hk35 (not_or.2 ⟨(Ne.symm (bib_tb_ne h (i := 2) rfl)), (Ne.symm (bib_tb_ne h (i := 3) rfl))⟩)).kp hk42 id)
  refine c_e rfl (e_call ca78 (args := [(Vi (b.proto)), (t4 b.out)]) rfl (key4_spec b.proto b.out _ (by omega) (by omega) hf44)) ?_
  rintro _ w45 ⟨rfl, hk46⟩
  have ka47 := (Kp.then0 ka43 hk46)
  have ks48 : Kp (fun k => k = g.i2.ib ∨ k = g.i2.sb) w40 w45 := (Kp.then0 (Kp.refl _ _) hk46)
  refine ⟨ks48, ?_⟩
  refine o_one ?_
  have hf49 := (IxIs.kp (IxIs.kp (IxIs.kp (IxIs.kp (IxIs.kp (IxIs.kp (IxIs.kp (IxIs.kp hxo hk6 id id) hk13 id id) hk18 (blocks_ne h.nd (i := 4) (j := 1) (by decide) rfl rfl) (blocks_ne h.nd (i := 5) (j := 1) (by decide) rfl rfl)) hk26 id id) hk30 id id) hk35 (not_or.2 ⟨(blocks_ne h.nd (i := 4) (j := 2) (by decide) rfl rfl), (blocks_ne h.nd (i := 4) (j := 3) (by decide) rfl rfl)⟩) (not_or.2 ⟨(blocks_ne h.nd (i := 5) (j := 2) (by decide) rfl rfl), (blocks_ne h.nd (i := 5) (j := 3) (by decide) rfl rfl)⟩)) hk42 id id) hk46 id id)
  refine c_e rfl (e_call ca65 (args := [(Vp g.i2.ib 0), (.string (k4 b.proto b.out))]) rfl (del_spec ok.i2 hf49 _ _ hko)) ?_
  rintro _ w50 ⟨rfl, hX2, hk51⟩
  have ka52 := (Kp.trans ka47 hk51 (fun _ _ e => (fun e => e.elim (fun e => (.inr (.inr (.inr (.inr (.inl e)))))) (fun e => (.inr (.inr (.inr (.inr (.inr e))))))) e))
  have ks53 := (Kp.trans ks48 hk51 (fun _ _ e => e))
  refine ⟨ks53, ?_⟩
  refine o_done (hend _ _ [] trivial ?_)
  have hb54 := (hk51.get (hk46.get0 (hk42.get0 (hk35.get (hk30.get0 (hk26.get0 (hk18.get (hk13.get0 (hk6.get0 hb0)) hn1))) (not_or.2 ⟨(blocks_ne h.nd (i := 0) (j := 2) (by decide) rfl rfl), (blocks_ne h.nd (i := 0) (j := 3) (by decide) rfl rfl)⟩)))) (not_or.2 ⟨(blocks_ne h.nd (i := 0) (j := 4) (by decide) rfl rfl), (blocks_ne h.nd (i := 0) (j := 5) (by decide) rfl rfl)⟩))
  have hf55 := ((((((hm17.kp hk26 id).kp hk30 id).kp hk35 (not_or.2 ⟨(blocks_ne h.nd (i := 1) (j := 2) (by decide) rfl rfl), (blocks_ne h.nd (i := 1) (j := 3) (by decide) rfl rfl)⟩)).kp hk42 id).kp hk46 id).kp hk51 (not_or.2 ⟨(blocks_ne h.nd (i := 1) (j := 4) (by decide) rfl rfl), (blocks_ne h.nd (i := 1) (j := 5) (by decide) rfl rfl)⟩))
  have hf56 := (IxIs.kp (IxIs.kp (IxIs.kp hX1 hk42 id id) hk46 id id) hk51 (not_or.2 ⟨(blocks_ne h.nd (i := 2) (j := 4) (by decide) rfl rfl), (blocks_ne h.nd (i := 2) (j := 5) (by decide) rfl rfl)⟩) (not_or.2 ⟨(blocks_ne h.nd (i := 3) (j := 4) (by decide) rfl rfl), (blocks_ne h.nd (i := 3) (j := 5) (by decide) rfl rfl)⟩))
  have hmm9 := hf55; rw [e1] at hmm9
  have hi19 := hf56; rw [e2, e3] at hi19
  have hi29 := hX2; rw [e2, e4] at hi29
  exact ⟨rfl, BibIs.cut h ka52 hq hu hv hb54 hmm9 hi19 hi29, ka52⟩

end Go.Proofs.YtdcnblafepgheaaDoor
