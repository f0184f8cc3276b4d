/-
  Written by a program (wip/walks).
-/
import Derived.Test.YtdcnblafepgheaaDoorE13
namespace Go.Proofs.YtdcnblafepgheaaDoor
open Go Go.V
set_option maxRecDepth 100000
theorem kind_lit {p k : Int} (hk : kindI p = k) (w : World) : Rets Tryd.prog 51 #[.int .i64 p] w fun v w' => v = .int .i64 k ∧ K0 w w' := (kind_spec p w).mono fun v w' h => ⟨by rw [h.1, hk], h.2⟩
theorem cut_upd (l : List (Binding × Nat)) (id : Int) (b' : Binding) (hb : b'.id = id) : cutL (updL l id fun _ => b') id = cutL l id := by
  unfold cutL updL
  induction l with
  | nil => rfl
  | cons x l ih =>
    rw [List.map_cons]
    by_cases e : x.1.id = id
    · rw [List.filter_cons_of_neg (by simp [e, hb]), List.filter_cons_of_neg (by simp [e]), ih]
    · rw [List.filter_cons_of_pos (by simp [e]), List.filter_cons_of_pos (by simp [e]), ih]
      simp [e]
theorem upd_mem {l : List (Binding × Nat)} {q : Binding × Nat} (hq : q ∈ l) (b' : Binding) : (b', q.2) ∈ updL l q.1.id fun _ => b' := List.mem_map.2 ⟨q, hq, by simp⟩
theorem upd_uniq {l : List (Binding × Nat)} {α : Type} (f : Binding → α) {q : Binding × Nat} {b' : Binding} (hb : f b' = f q.1) (hn : (l.map (·.1.id)).Nodup) (hq : q ∈ l) (hu : ∀ q' ∈ l, f q'.1 = f q.1 → q' = q) : ∀ q' ∈ updL l q.1.id (fun _ => b'), f q'.1 = f b' → q' = (b', q.2) := by
  intro q' hq' e
  obtain ⟨y, hy, rfl⟩ := List.mem_map.1 hq'
  by_cases e2 : y.1.id = q.1.id
  · simp only [e2, if_true]; rw [same_q' hn hq hy e2]
  · simp only [e2, if_false] at e ⊢
    exact absurd (by rw [hu y hy (e.trans hb)]) e2
theorem bfp_cut {g : BibG} {st : BibS} {id : Int} {x : Int} {hh : Nat → List (T4 × Bool)} {b : Nat} (hb : b ∈ bfp g ⟨x, cutL st.l id, hh⟩) : b ∈ bfp g st :=
  ((List.Sublist.refl g.blocks).append ((cutL_sub st.l id).map (·.2))).subset hb
theorem drop_gone_0 {g : BibG} {st : BibS} {w : World} (ok : BibOk g) (h : BibIs g st w) (q : Binding × Nat) (hq : q ∈ st.l) (hs : q.1.sessions = 1) (hst : q.1.static = false) (hk : kindI q.1.proto = 0) (hu : ∀ q' ∈ st.l, k6 q'.1.proto q'.1.inn = k6 q.1.proto q.1.inn → q' = q) (hv : ∀ q' ∈ st.l, k4 q'.1.proto q'.1.out = k4 q.1.proto q.1.out → q' = q) (hr : (-9223372036854775808 ≤ q.1.proto ∧ q.1.proto ≤ 9223372036854775807) ∧ (-9223372036854775808 ≤ q.1.inn.port ∧ q.1.inn.port ≤ 9223372036854775807) ∧ (-9223372036854775808 ≤ q.1.out.port ∧ q.1.out.port ≤ 9223372036854775807))  : Rets Tryd.prog 17 #[(.pointer (some ⟨g.tb, 0, none⟩)), (.int .i64 (q.1.id))] w fun v w' => v = .tuple #[.bool true, .int .i64 (pGive (g.p 0).l (st.h 0) q.1.out).1] ∧ BibIs g ⟨st.last, cutL st.l q.1.id, setH st.h 0 (pGive (g.p 0).l (st.h 0) q.1.out).2⟩ w' ∧ Kp (fun k => k = q.2 ∨ k = g.tb ∨ k = g.mb ∨ k = g.i1.ib ∨ k = g.i1.sb ∨ k = g.i2.ib ∨ k = g.i2.sb ∨ k = (g.p 0).mb) w w' := by
  refine enter Tryd.func17 rfl Tryd.ntmps17 rfl fun Q hret hend E hE => ?_
  have g1 : E 0 = (Vp g.tb 0) := hE 0
  have g2 : E 1 = (Vi (q.1.id)) := hE 1
  clear hE
  have hb0 := h.blk; have hm0 := h.map; have hT0 := h.tb; have hn1 : g.tb ≠ g.mb := blk_ne_map h.blk h.map
  have hag := h.aget hq; have hq3 := h.good hq; unfold inI at hq3; have hq2 := h.box q hq
  have hr3 := hr.2.2
  refine seq fun K3 hK3 => ?_
  refine reg ?_
  refine s_y (y_assign (v := Vf) rfl) rfl ?_
  refine s_y (y_assign (v := (Vi 0)) rfl) rfl ?_
  refine s_nil (hK3 _ _ (genC [(0, (Vp g.tb 0)), (1, (Vi (q.1.id)))] ⟨g1, g2, trivial⟩ ?_))
  clear hK3; rintro E ⟨g4, g5, -⟩
  refine seq fun K6 hK6 => ?_
  refine seq fun K7 hK7 => ?_
  refine reg ?_
  refine s_y (y_move (v := (Vp g.tb 0)) g4) rfl ?_
  refine s_e (e_call ca49 (args := [(Vp g.tb 0)]) rfl (bnone_spec h)) rfl ?_
  rintro _ w8 ⟨rfl, hk9⟩
  have ka10 : Kp (fun k => k = q.2 ∨ k = g.tb ∨ k = g.mb ∨ k = g.i1.ib ∨ k = g.i1.sb ∨ k = g.i2.ib ∨ k = g.i2.sb ∨ k = (g.p 0).mb) w w8 := (Kp.then0 (Kp.refl _ _) hk9)
  refine s_nil (hK7 _ _ (genC [(0, (Vp g.tb 0)), (1, (Vi (q.1.id))), (9, Vf)] ⟨g4, g5, rfl, trivial⟩ ?_))
  clear hK7; rintro E ⟨g11, g12, g13, -⟩
  refine cond_f g13 ?_
  refine skip (hK6 _ _ (genC [(0, (Vp g.tb 0)), (1, (Vi (q.1.id)))] ⟨g11, g12, trivial⟩ ?_))
  clear hK6; rintro E ⟨g14, g15, -⟩
  refine seq fun K16 hK16 => ?_
  refine reg ?_
  refine s_y (y_move (v := (Vp g.tb 0)) g14) rfl ?_
  refine s_y (y_nil rfl) rfl ?_
  refine s_y (y_fld fo95_3 rfl) rfl ?_
  have hb17 := (hk9.get0 hb0)
  refine s_y (y_load (v := (.map (some g.mb))) rfl (rd_sc sc91 (On.now hb17) rfl)) rfl ?_
  refine s_y (y_move (v := (Vi (q.1.id))) g15) rfl ?_
  have hf18 := (hm0.kp hk9 id)
  refine s_y (y_lookup2_some kf3 Tryd.underlying91 ze101 (MapOn.now hf18) rfl rfl (show inI q.1.id from inI_of (by omega) (by omega)) hag) rfl ?_
  refine s_y (y_move (v := (.tuple #[(Vp q.2 0), Vt])) rfl) rfl ?_
  refine s_y (y_ext rfl (v := (Vp q.2 0)) rfl) rfl ?_
  refine s_y (y_ext rfl (v := Vt) rfl) rfl ?_
  refine s_y (y_assign (v := (Vp q.2 0)) rfl) rfl ?_
  refine s_y (y_assign (v := Vt) rfl) rfl ?_
  refine s_nil (hK16 _ _ (genC [(0, (Vp g.tb 0)), (6, (Vp q.2 0)), (7, Vt)] ⟨g14, rfl, rfl, trivial⟩ ?_))
  clear hK16; rintro E ⟨g19, g20, g21, -⟩
  refine seq fun K22 hK22 => ?_
  refine block ?_
  refine seq fun K23 hK23 => ?_
  refine reg ?_
  refine s_y (y_move (v := Vt) g21) rfl ?_
  refine s_y (y_not rfl) rfl ?_
  refine s_y (y_assign (v := Vf) rfl) rfl ?_
  refine s_nil (hK23 _ _ (genC [(0, (Vp g.tb 0)), (6, (Vp q.2 0)), (19, Vf)] ⟨g19, g20, rfl, trivial⟩ ?_))
  clear hK23; rintro E ⟨g24, g25, g26, -⟩
  refine cond_f g26 ?_
  refine seq fun K27 hK27 => ?_
  refine reg ?_
  refine s_y (y_move (v := (Vp q.2 0)) g25) rfl ?_
  refine s_y (y_nil rfl) rfl ?_
  refine s_y (y_fld fo36_5 rfl) rfl ?_
  have hb28 := (hk9.get0 hq2)
  refine s_y (y_load (v := (Vi (q.1.sessions))) rfl (rd_sc sc3 (On.now hb28) rfl)) rfl ?_
  refine s_y (y_eql rfl rfl) rfl ?_
  refine s_y (y_assign (v := (.bool (decide ((q.1.sessions : Int) = 0)))) rfl) rfl ?_
  refine s_nil (hK27 _ _ (genC [(0, (Vp g.tb 0)), (6, (Vp q.2 0)), (22, (.bool (decide ((q.1.sessions : Int) = 0))))] ⟨g24, g25, rfl, trivial⟩ ?_))
  clear hK27; rintro E ⟨g29, g30, g31, -⟩
  refine cond_d g31 (fun c32 => ?_) (fun c32 => ?_)
  · omega
  · refine skip (hK22 _ _ (genC [(0, (Vp g.tb 0)), (6, (Vp q.2 0))] ⟨g29, g30, trivial⟩ ?_))
    clear hK22; rintro E ⟨g33, g34, -⟩
    refine seq fun K35 hK35 => ?_
    refine reg ?_
    refine s_y (y_move (v := (Vp q.2 0)) g34) rfl ?_
    refine s_y (y_nil rfl) rfl ?_
    refine s_y (y_fld fo36_5 rfl) rfl ?_
    refine s_y (y_load (v := (Vi (q.1.sessions))) rfl (rd_sc sc3 (On.now hb28) rfl)) rfl ?_
    refine s_y (y_sub rfl rfl (c := q.1.sessions - 1) (by omega) rfl) rfl ?_
    refine s_y (y_nil rfl) rfl ?_
    refine s_y (y_fld fo36_5 rfl) rfl ?_
    refine s_e0 (e_storeV (cs' := #[(Vi (q.1.id)), (Vi (q.1.proto)), (u8 q.1.inn.addr.b0), (u8 q.1.inn.addr.b1), (u8 q.1.inn.addr.b2), (u8 q.1.inn.addr.b3), (u8 q.1.inn.addr.b4), (u8 q.1.inn.addr.b5), (u8 q.1.inn.addr.b6), (u8 q.1.inn.addr.b7), (u8 q.1.inn.addr.b8), (u8 q.1.inn.addr.b9), (u8 q.1.inn.addr.b10), (u8 q.1.inn.addr.b11), (u8 q.1.inn.addr.b12), (u8 q.1.inn.addr.b13), (u8 q.1.inn.addr.b14), (u8 q.1.inn.addr.b15), (Vi (q.1.inn.port)), (u8 q.1.out.addr.a), (u8 q.1.out.addr.b), (u8 q.1.out.addr.c), (u8 q.1.out.addr.d), (Vi (q.1.out.port)), (.bool (q.1.static)), (Vi (q.1.sessions - 1))]) [(Vi (q.1.sessions - 1))] rfl (v := (Vi (q.1.sessions - 1))) rfl rfl sz3 hb28 rfl rfl rfl) ?_
    rintro _ w36 ⟨hb37, hk38⟩
    have ka39 := (Kp.trans ka10 hk38 (fun _ _ e => (fun e => (.inl e)) e))
    refine s_nil (hK35 _ _ (genC [(0, (Vp g.tb 0)), (6, (Vp q.2 0))] ⟨g33, g34, trivial⟩ ?_))
    clear hK35; rintro E ⟨g40, g41, -⟩
    refine seq fun K42 hK42 => ?_
    refine seq fun K43 hK43 => ?_
    refine reg ?_
    refine s_y (y_move (v := (Vp q.2 0)) g41) rfl ?_
    refine s_y (y_nil rfl) rfl ?_
    refine s_y (y_fld fo36_4 rfl) rfl ?_
    refine s_y (y_load (v := (.bool (q.1.static))) rfl (rd_sc sc4 (On.now hb37) rfl)) rfl ?_
    refine s_y (y_move (v := (.bool (q.1.static))) rfl) rfl ?_
    refine (Bool.eq_false_or_eq_true (q.1.static)).elim (fun c44 => ?_) (fun c44 => ?_)
    · rw [hst] at c44; cases c44
    · refine s_gy (.yes rfl (congrArg Value.bool c44)) (y_move (v := (Vp q.2 0)) g41) rfl ?_
      refine s_gy (.yes rfl (congrArg Value.bool c44)) (y_nil rfl) rfl ?_
      refine s_gy (.yes rfl (congrArg Value.bool c44)) (y_fld fo36_5 rfl) rfl ?_
      refine s_gy (.yes rfl (congrArg Value.bool c44)) (y_load (v := (Vi (q.1.sessions - 1))) rfl (rd_sc sc3 (On.now hb37) rfl)) rfl ?_
      refine s_gy (.yes rfl (congrArg Value.bool c44)) (y_gtr rfl rfl) rfl ?_
      refine s_y (y_pick_f (congrArg Value.bool c44) (v := (.bool (decide ((0 : Int) < q.1.sessions - 1)))) rfl) rfl ?_
      refine s_nil (hK43 _ _ (genC [(0, (Vp g.tb 0)), (6, (Vp q.2 0)), (45, (.bool (decide ((0 : Int) < q.1.sessions - 1))))] ⟨g40, g41, rfl, trivial⟩ ?_))
      clear hK43; rintro E ⟨g45, g46, g47, -⟩
      refine cond_d g47 (fun c48 => ?_) (fun c48 => ?_)
      · omega
      · refine skip (hK42 _ _ (genC [(0, (Vp g.tb 0)), (6, (Vp q.2 0))] ⟨g45, g46, trivial⟩ ?_))
        clear hK42; rintro E ⟨g49, g50, -⟩
        refine seq fun K51 hK51 => ?_
        refine reg ?_
        refine s_y (y_move (v := (Vp g.tb 0)) g49) rfl ?_
        refine s_y (y_move (v := (Vp q.2 0)) g50) rfl ?_
        refine s_y (y_nil rfl) rfl ?_
        refine s_y (y_load (v := (bv (⟨q.1.id, q.1.proto, q.1.inn, q.1.out, q.1.static, q.1.sessions - 1⟩ : Binding))) rfl (rd_agg (vs := [(Vi (q.1.id)), (Vi (q.1.proto)), (u8 q.1.inn.addr.b0), (u8 q.1.inn.addr.b1), (u8 q.1.inn.addr.b2), (u8 q.1.inn.addr.b3), (u8 q.1.inn.addr.b4), (u8 q.1.inn.addr.b5), (u8 q.1.inn.addr.b6), (u8 q.1.inn.addr.b7), (u8 q.1.inn.addr.b8), (u8 q.1.inn.addr.b9), (u8 q.1.inn.addr.b10), (u8 q.1.inn.addr.b11), (u8 q.1.inn.addr.b12), (u8 q.1.inn.addr.b13), (u8 q.1.inn.addr.b14), (u8 q.1.inn.addr.b15), (Vi (q.1.inn.port)), (u8 q.1.out.addr.a), (u8 q.1.out.addr.b), (u8 q.1.out.addr.c), (u8 q.1.out.addr.d), (Vi (q.1.out.port)), (.bool (q.1.static)), (Vi (q.1.sessions - 1))]) ag36 (On.now hb37) (by kernel_rfl) rfl)) rfl ?_
        have kc52 : Kp (· = q.2) w w8 := (Kp.then0 (Kp.refl _ _) hk9)
        have kc53 : Kp (· = q.2) w w36 := (Kp.trans kc52 hk38 (fun _ _ e => e))
        have hB9 := BibIs.upd h hq kc53 (addS q.1 (-1)) rfl rfl rfl rfl hb37
        refine s_e (e_call ca50 (args := [(Vp g.tb 0), (bv (⟨q.1.id, q.1.proto, q.1.inn, q.1.out, q.1.static, q.1.sessions - 1⟩ : Binding))]) rfl (cutb_spec ok hB9 (addS q.1 (-1), q.2) (upd_mem hq _) (addS q.1 (-1)) rfl rfl rfl rfl (upd_uniq (fun b => k6 b.proto b.inn) rfl h.ids hq hu) (upd_uniq (fun b => k4 b.proto b.out) rfl h.ids hq hv) hr)) rfl ?_
        rintro _ w54 ⟨rfl, hC9, hk55⟩
        have ka56 := (Kp.trans ka39 hk55 (fun _ _ e => (fun e => e.elim (fun e => (.inr (.inl e))) (fun e => e.elim (fun e => (.inr (.inr (.inl e)))) (fun e => e.elim (fun e => (.inr (.inr (.inr (.inl e))))) (fun e => e.elim (fun e => (.inr (.inr (.inr (.inr (.inl e)))))) (fun e => e.elim (fun e => (.inr (.inr (.inr (.inr (.inr (.inl e))))))) (fun e => (.inr (.inr (.inr (.inr (.inr (.inr (.inl e))))))))))))) e))
        replace hC9 : BibIs g ⟨st.last, cutL (updL st.l q.1.id fun _ => addS q.1 (-1)) q.1.id, st.h⟩ w54 := hC9
        rw [cut_upd st.l q.1.id (addS q.1 (-1)) rfl] at hC9
        have hb57 := BibIs.blk hC9; have hm58 := BibIs.map hC9; have hT59 := BibIs.tb hC9
        refine s_nil (hK51 _ _ (genC [(0, (Vp g.tb 0)), (6, (Vp q.2 0))] ⟨g49, g50, trivial⟩ ?_))
        clear hK51; rintro E ⟨g60, g61, -⟩
        refine seq fun K62 hK62 => ?_
        refine regD (· = (g.p 0).mb) (.take 0 (.take 1 (.take 2 (.take 3 (.take 4 (.take 6 (.take 7 (.take 10 (.take 11 (.take 12 (.take 13 (.one 5 (.take 8 (.take 9 (.one 14 (.take 15 (.take 16 .done))))))))))))))))) mixed (by kernel_rfl) fun w63 hh64 hk65 => ?_
        have ka66 := (Kp.then0 ka56 hk65)
        refine o_y rfl (y_move (v := (Vp g.tb 0)) g60) ?_
        refine o_y rfl (y_move (v := (Vp q.2 0)) g61) ?_
        refine o_y rfl (y_nil rfl) ?_
        refine o_y rfl (y_fld fo36_1 rfl) ?_
        refine o_y rfl (y_load (v := (Vi (q.1.proto))) rfl (rd_sc sc3 (On.kp (hk65.get0 (hk55.get hb37 (not_or.2 ⟨(Ne.symm (box_ne h.nd hq (List.mem_of_getElem? (i := 0) (rfl : g.blocks[0]? = some g.tb)))), (not_or.2 ⟨(Ne.symm (box_ne h.nd hq (List.mem_of_getElem? (i := 1) (rfl : g.blocks[1]? = some g.mb)))), (not_or.2 ⟨(Ne.symm (box_ne h.nd hq (List.mem_of_getElem? (i := 2) (rfl : g.blocks[2]? = some g.i1.ib)))), (not_or.2 ⟨(Ne.symm (box_ne h.nd hq (List.mem_of_getElem? (i := 3) (rfl : g.blocks[3]? = some g.i1.sb)))), (not_or.2 ⟨(Ne.symm (box_ne h.nd hq (List.mem_of_getElem? (i := 4) (rfl : g.blocks[4]? = some g.i2.ib)))), (Ne.symm (box_ne h.nd hq (List.mem_of_getElem? (i := 5) (rfl : g.blocks[5]? = some g.i2.sb))))⟩)⟩)⟩)⟩)⟩))) (Ne.symm (box_ne h.nd hq (List.mem_of_getElem? (i := 8) (rfl : g.blocks[8]? = some (g.p 0).mb))))) rfl)) ?_
        refine o_y rfl (y_nil rfl) ?_
        refine o_y rfl (y_fld fo95_6 rfl) ?_
        refine o_y rfl (y_move (v := (Vp q.2 0)) g61) ?_
        refine o_y rfl (y_nil rfl) ?_
        refine o_y rfl (y_fld fo36_3 rfl) ?_
        refine o_y rfl (y_load (v := (t4 q.1.out)) rfl (rd_agg (vs := q.1.out.cs) ag34 (On.kp (hk65.get0 (hk55.get hb37 (not_or.2 ⟨(Ne.symm (box_ne h.nd hq (List.mem_of_getElem? (i := 0) (rfl : g.blocks[0]? = some g.tb)))), (not_or.2 ⟨(Ne.symm (box_ne h.nd hq (List.mem_of_getElem? (i := 1) (rfl : g.blocks[1]? = some g.mb)))), (not_or.2 ⟨(Ne.symm (box_ne h.nd hq (List.mem_of_getElem? (i := 2) (rfl : g.blocks[2]? = some g.i1.ib)))), (not_or.2 ⟨(Ne.symm (box_ne h.nd hq (List.mem_of_getElem? (i := 3) (rfl : g.blocks[3]? = some g.i1.sb)))), (not_or.2 ⟨(Ne.symm (box_ne h.nd hq (List.mem_of_getElem? (i := 4) (rfl : g.blocks[4]? = some g.i2.ib)))), (Ne.symm (box_ne h.nd hq (List.mem_of_getElem? (i := 5) (rfl : g.blocks[5]? = some g.i2.sb))))⟩)⟩)⟩)⟩)⟩))) (Ne.symm (box_ne h.nd hq (List.mem_of_getElem? (i := 8) (rfl : g.blocks[8]? = some (g.p 0).mb))))) (by kernel_rfl) rfl)) ?_
        refine o_one ?_
        refine c_e rfl (e_call ca51 (args := [(Vi (q.1.proto))]) rfl (kind_lit hk _)) ?_
        rintro _ w67 ⟨rfl, hk68⟩
        have ka69 := (Kp.then0 ka66 hk68)
        have ks70 : Kp (· = (g.p 0).mb) w63 w67 := (Kp.then0 (Kp.refl _ _) hk68)
        refine ⟨ks70, ?_⟩
        refine o_y rfl (y_idxA ao93 sz92 rfl (i := 0) rfl (by omega)) ?_
        refine o_y rfl (y_load (v := (Vp ((g.p 0).pb) 0)) rfl (rd_sc sc92 (On.kp (hk65.get0 hb57) (blocks_ne h.nd (i := 0) (j := 8) (by decide) rfl rfl)) rfl)) ?_
        refine o_one ?_
        have hf71 := (BibIs.k0 (BibIs.k0 hC9 hk65) hk68)
        refine c_e rfl (e_call ca52 (args := [(Vp ((g.p 0).pb) 0), (t4 q.1.out)]) rfl (give_spec (BibIs.pool hf71 0 (by omega)) (ok.pool 0 (by omega)) q.1.out hr3)) ?_
        rintro _ w72 ⟨rfl, hp74, hk73⟩
        have hD9 := BibIs.pool_put hf71 (k := 0) (by omega) hp74 hk73
        have ka75 := (Kp.trans ka69 hk73 (fun _ _ e => (fun e => (.inr (.inr (.inr (.inr (.inr (.inr (.inr e)))))))) e))
        have ks76 := (Kp.trans ks70 hk73 (fun _ _ e => e))
        refine ⟨ks76, ?_⟩
        refine o_y rfl (y_assign (v := Vt) rfl) ?_
        refine o_y rfl (y_assign (v := (Vi ((pGive (g.p 0).l (st.h 0) q.1.out).1))) rfl) ?_
        refine o_done (hK62 _ _ (genC [(4, Vt), (5, (Vi ((pGive (g.p 0).l (st.h 0) q.1.out).1)))] ⟨rfl, rfl, trivial⟩ ?_))
        clear hK62; rintro E ⟨g77, g78, -⟩
        refine ret (hret _ _ [Vt, (Vi ((pGive (g.p 0).l (st.h 0) q.1.out).1))] ⟨g77, g78, trivial⟩ ?_)
        exact ⟨rfl, hD9, ka75⟩

theorem drop_gone_1 {g : BibG} {st : BibS} {w : World} (ok : BibOk g) (h : BibIs g st w) (q : Binding × Nat) (hq : q ∈ st.l) (hs : q.1.sessions = 1) (hst : q.1.static = false) (hk : kindI q.1.proto = 1) (hu : ∀ q' ∈ st.l, k6 q'.1.proto q'.1.inn = k6 q.1.proto q.1.inn → q' = q) (hv : ∀ q' ∈ st.l, k4 q'.1.proto q'.1.out = k4 q.1.proto q.1.out → q' = q) (hr : (-9223372036854775808 ≤ q.1.proto ∧ q.1.proto ≤ 9223372036854775807) ∧ (-9223372036854775808 ≤ q.1.inn.port ∧ q.1.inn.port ≤ 9223372036854775807) ∧ (-9223372036854775808 ≤ q.1.out.port ∧ q.1.out.port ≤ 9223372036854775807))  : Rets Tryd.prog 17 #[(.pointer (some ⟨g.tb, 0, none⟩)), (.int .i64 (q.1.id))] w fun v w' => v = .tuple #[.bool true, .int .i64 (pGive (g.p 1).l (st.h 1) q.1.out).1] ∧ BibIs g ⟨st.last, cutL st.l q.1.id, setH st.h 1 (pGive (g.p 1).l (st.h 1) q.1.out).2⟩ w' ∧ Kp (fun k => k = q.2 ∨ k = g.tb ∨ k = g.mb ∨ k = g.i1.ib ∨ k = g.i1.sb ∨ k = g.i2.ib ∨ k = g.i2.sb ∨ k = (g.p 1).mb) w w' := by
  refine enter Tryd.func17 rfl Tryd.ntmps17 rfl fun Q hret hend E hE => ?_
  have g1 : E 0 = (Vp g.tb 0) := hE 0
  have g2 : E 1 = (Vi (q.1.id)) := hE 1
  clear hE
  have hb0 := h.blk; have hm0 := h.map; have hT0 := h.tb; have hn1 : g.tb ≠ g.mb := blk_ne_map h.blk h.map
  have hag := h.aget hq; have hq3 := h.good hq; unfold inI at hq3; have hq2 := h.box q hq
  have hr3 := hr.2.2
  refine seq fun K3 hK3 => ?_
  refine reg ?_
  refine s_y (y_assign (v := Vf) rfl) rfl ?_
  refine s_y (y_assign (v := (Vi 0)) rfl) rfl ?_
  refine s_nil (hK3 _ _ (genC [(0, (Vp g.tb 0)), (1, (Vi (q.1.id)))] ⟨g1, g2, trivial⟩ ?_))
  clear hK3; rintro E ⟨g4, g5, -⟩
  refine seq fun K6 hK6 => ?_
  refine seq fun K7 hK7 => ?_
  refine reg ?_
  refine s_y (y_move (v := (Vp g.tb 0)) g4) rfl ?_
  refine s_e (e_call ca49 (args := [(Vp g.tb 0)]) rfl (bnone_spec h)) rfl ?_
  rintro _ w8 ⟨rfl, hk9⟩
  have ka10 : Kp (fun k => k = q.2 ∨ k = g.tb ∨ k = g.mb ∨ k = g.i1.ib ∨ k = g.i1.sb ∨ k = g.i2.ib ∨ k = g.i2.sb ∨ k = (g.p 1).mb) w w8 := (Kp.then0 (Kp.refl _ _) hk9)
  refine s_nil (hK7 _ _ (genC [(0, (Vp g.tb 0)), (1, (Vi (q.1.id))), (9, Vf)] ⟨g4, g5, rfl, trivial⟩ ?_))
  clear hK7; rintro E ⟨g11, g12, g13, -⟩
  refine cond_f g13 ?_
  refine skip (hK6 _ _ (genC [(0, (Vp g.tb 0)), (1, (Vi (q.1.id)))] ⟨g11, g12, trivial⟩ ?_))
  clear hK6; rintro E ⟨g14, g15, -⟩
  refine seq fun K16 hK16 => ?_
  refine reg ?_
  refine s_y (y_move (v := (Vp g.tb 0)) g14) rfl ?_
  refine s_y (y_nil rfl) rfl ?_
  refine s_y (y_fld fo95_3 rfl) rfl ?_
  have hb17 := (hk9.get0 hb0)
  refine s_y (y_load (v := (.map (some g.mb))) rfl (rd_sc sc91 (On.now hb17) rfl)) rfl ?_
  refine s_y (y_move (v := (Vi (q.1.id))) g15) rfl ?_
  have hf18 := (hm0.kp hk9 id)
  refine s_y (y_lookup2_some kf3 Tryd.underlying91 ze101 (MapOn.now hf18) rfl rfl (show inI q.1.id from inI_of (by omega) (by omega)) hag) rfl ?_
  refine s_y (y_move (v := (.tuple #[(Vp q.2 0), Vt])) rfl) rfl ?_
  refine s_y (y_ext rfl (v := (Vp q.2 0)) rfl) rfl ?_
  refine s_y (y_ext rfl (v := Vt) rfl) rfl ?_
  refine s_y (y_assign (v := (Vp q.2 0)) rfl) rfl ?_
  refine s_y (y_assign (v := Vt) rfl) rfl ?_
  refine s_nil (hK16 _ _ (genC [(0, (Vp g.tb 0)), (6, (Vp q.2 0)), (7, Vt)] ⟨g14, rfl, rfl, trivial⟩ ?_))
  clear hK16; rintro E ⟨g19, g20, g21, -⟩
  refine seq fun K22 hK22 => ?_
  refine block ?_
  refine seq fun K23 hK23 => ?_
  refine reg ?_
  refine s_y (y_move (v := Vt) g21) rfl ?_
  refine s_y (y_not rfl) rfl ?_
  refine s_y (y_assign (v := Vf) rfl) rfl ?_
  refine s_nil (hK23 _ _ (genC [(0, (Vp g.tb 0)), (6, (Vp q.2 0)), (19, Vf)] ⟨g19, g20, rfl, trivial⟩ ?_))
  clear hK23; rintro E ⟨g24, g25, g26, -⟩
  refine cond_f g26 ?_
  refine seq fun K27 hK27 => ?_
  refine reg ?_
  refine s_y (y_move (v := (Vp q.2 0)) g25) rfl ?_
  refine s_y (y_nil rfl) rfl ?_
  refine s_y (y_fld fo36_5 rfl) rfl ?_
  have hb28 := (hk9.get0 hq2)
  refine s_y (y_load (v := (Vi (q.1.sessions))) rfl (rd_sc sc3 (On.now hb28) rfl)) rfl ?_
  refine s_y (y_eql rfl rfl) rfl ?_
  refine s_y (y_assign (v := (.bool (decide ((q.1.sessions : Int) = 0)))) rfl) rfl ?_
  refine s_nil (hK27 _ _ (genC [(0, (Vp g.tb 0)), (6, (Vp q.2 0)), (22, (.bool (decide ((q.1.sessions : Int) = 0))))] ⟨g24, g25, rfl, trivial⟩ ?_))
  clear hK27; rintro E ⟨g29, g30, g31, -⟩
  refine cond_d g31 (fun c32 => ?_) (fun c32 => ?_)
  · omega
  · refine skip (hK22 _ _ (genC [(0, (Vp g.tb 0)), (6, (Vp q.2 0))] ⟨g29, g30, trivial⟩ ?_))
    clear hK22; rintro E ⟨g33, g34, -⟩
    refine seq fun K35 hK35 => ?_
    refine reg ?_
    refine s_y (y_move (v := (Vp q.2 0)) g34) rfl ?_
    refine s_y (y_nil rfl) rfl ?_
    refine s_y (y_fld fo36_5 rfl) rfl ?_
    refine s_y (y_load (v := (Vi (q.1.sessions))) rfl (rd_sc sc3 (On.now hb28) rfl)) rfl ?_
    refine s_y (y_sub rfl rfl (c := q.1.sessions - 1) (by omega) rfl) rfl ?_
    refine s_y (y_nil rfl) rfl ?_
    refine s_y (y_fld fo36_5 rfl) rfl ?_
    refine s_e0 (e_storeV (cs' := #[(Vi (q.1.id)), (Vi (q.1.proto)), (u8 q.1.inn.addr.b0), (u8 q.1.inn.addr.b1), (u8 q.1.inn.addr.b2), (u8 q.1.inn.addr.b3), (u8 q.1.inn.addr.b4), (u8 q.1.inn.addr.b5), (u8 q.1.inn.addr.b6), (u8 q.1.inn.addr.b7), (u8 q.1.inn.addr.b8), (u8 q.1.inn.addr.b9), (u8 q.1.inn.addr.b10), (u8 q.1.inn.addr.b11), (u8 q.1.inn.addr.b12), (u8 q.1.inn.addr.b13), (u8 q.1.inn.addr.b14), (u8 q.1.inn.addr.b15), (Vi (q.1.inn.port)), (u8 q.1.out.addr.a), (u8 q.1.out.addr.b), (u8 q.1.out.addr.c), (u8 q.1.out.addr.d), (Vi (q.1.out.port)), (.bool (q.1.static)), (Vi (q.1.sessions - 1))]) [(Vi (q.1.sessions - 1))] rfl (v := (Vi (q.1.sessions - 1))) rfl rfl sz3 hb28 rfl rfl rfl) ?_
    rintro _ w36 ⟨hb37, hk38⟩
    have ka39 := (Kp.trans ka10 hk38 (fun _ _ e => (fun e => (.inl e)) e))
    refine s_nil (hK35 _ _ (genC [(0, (Vp g.tb 0)), (6, (Vp q.2 0))] ⟨g33, g34, trivial⟩ ?_))
    clear hK35; rintro E ⟨g40, g41, -⟩
    refine seq fun K42 hK42 => ?_
    refine seq fun K43 hK43 => ?_
    refine reg ?_
    refine s_y (y_move (v := (Vp q.2 0)) g41) rfl ?_
    refine s_y (y_nil rfl) rfl ?_
    refine s_y (y_fld fo36_4 rfl) rfl ?_
    refine s_y (y_load (v := (.bool (q.1.static))) rfl (rd_sc sc4 (On.now hb37) rfl)) rfl ?_
    refine s_y (y_move (v := (.bool (q.1.static))) rfl) rfl ?_
    refine (Bool.eq_false_or_eq_true (q.1.static)).elim (fun c44 => ?_) (fun c44 => ?_)
    · rw [hst] at c44; cases c44
    · refine s_gy (.yes rfl (congrArg Value.bool c44)) (y_move (v := (Vp q.2 0)) g41) rfl ?_
      refine s_gy (.yes rfl (congrArg Value.bool c44)) (y_nil rfl) rfl ?_
      refine s_gy (.yes rfl (congrArg Value.bool c44)) (y_fld fo36_5 rfl) rfl ?_
      refine s_gy (.yes rfl (congrArg Value.bool c44)) (y_load (v := (Vi (q.1.sessions - 1))) rfl (rd_sc sc3 (On.now hb37) rfl)) rfl ?_
      refine s_gy (.yes rfl (congrArg Value.bool c44)) (y_gtr rfl rfl) rfl ?_
      refine s_y (y_pick_f (congrArg Value.bool c44) (v := (.bool (decide ((0 : Int) < q.1.sessions - 1)))) rfl) rfl ?_
      refine s_nil (hK43 _ _ (genC [(0, (Vp g.tb 0)), (6, (Vp q.2 0)), (45, (.bool (decide ((0 : Int) < q.1.sessions - 1))))] ⟨g40, g41, rfl, trivial⟩ ?_))
      clear hK43; rintro E ⟨g45, g46, g47, -⟩
      refine cond_d g47 (fun c48 => ?_) (fun c48 => ?_)
      · omega
      · refine skip (hK42 _ _ (genC [(0, (Vp g.tb 0)), (6, (Vp q.2 0))] ⟨g45, g46, trivial⟩ ?_))
        clear hK42; rintro E ⟨g49, g50, -⟩
        refine seq fun K51 hK51 => ?_
        refine reg ?_
        refine s_y (y_move (v := (Vp g.tb 0)) g49) rfl ?_
        refine s_y (y_move (v := (Vp q.2 0)) g50) rfl ?_
        refine s_y (y_nil rfl) rfl ?_
        refine s_y (y_load (v := (bv (⟨q.1.id, q.1.proto, q.1.inn, q.1.out, q.1.static, q.1.sessions - 1⟩ : Binding))) rfl (rd_agg (vs := [(Vi (q.1.id)), (Vi (q.1.proto)), (u8 q.1.inn.addr.b0), (u8 q.1.inn.addr.b1), (u8 q.1.inn.addr.b2), (u8 q.1.inn.addr.b3), (u8 q.1.inn.addr.b4), (u8 q.1.inn.addr.b5), (u8 q.1.inn.addr.b6), (u8 q.1.inn.addr.b7), (u8 q.1.inn.addr.b8), (u8 q.1.inn.addr.b9), (u8 q.1.inn.addr.b10), (u8 q.1.inn.addr.b11), (u8 q.1.inn.addr.b12), (u8 q.1.inn.addr.b13), (u8 q.1.inn.addr.b14), (u8 q.1.inn.addr.b15), (Vi (q.1.inn.port)), (u8 q.1.out.addr.a), (u8 q.1.out.addr.b), (u8 q.1.out.addr.c), (u8 q.1.out.addr.d), (Vi (q.1.out.port)), (.bool (q.1.static)), (Vi (q.1.sessions - 1))]) ag36 (On.now hb37) (by kernel_rfl) rfl)) rfl ?_
        have kc52 : Kp (· = q.2) w w8 := (Kp.then0 (Kp.refl _ _) hk9)
        have kc53 : Kp (· = q.2) w w36 := (Kp.trans kc52 hk38 (fun _ _ e => e))
        have hB9 := BibIs.upd h hq kc53 (addS q.1 (-1)) rfl rfl rfl rfl hb37
        refine s_e (e_call ca50 (args := [(Vp g.tb 0), (bv (⟨q.1.id, q.1.proto, q.1.inn, q.1.out, q.1.static, q.1.sessions - 1⟩ : Binding))]) rfl (cutb_spec ok hB9 (addS q.1 (-1), q.2) (upd_mem hq _) (addS q.1 (-1)) rfl rfl rfl rfl (upd_uniq (fun b => k6 b.proto b.inn) rfl h.ids hq hu) (upd_uniq (fun b => k4 b.proto b.out) rfl h.ids hq hv) hr)) rfl ?_
        rintro _ w54 ⟨rfl, hC9, hk55⟩
        have ka56 := (Kp.trans ka39 hk55 (fun _ _ e => (fun e => e.elim (fun e => (.inr (.inl e))) (fun e => e.elim (fun e => (.inr (.inr (.inl e)))) (fun e => e.elim (fun e => (.inr (.inr (.inr (.inl e))))) (fun e => e.elim (fun e => (.inr (.inr (.inr (.inr (.inl e)))))) (fun e => e.elim (fun e => (.inr (.inr (.inr (.inr (.inr (.inl e))))))) (fun e => (.inr (.inr (.inr (.inr (.inr (.inr (.inl e))))))))))))) e))
        replace hC9 : BibIs g ⟨st.last, cutL (updL st.l q.1.id fun _ => addS q.1 (-1)) q.1.id, st.h⟩ w54 := hC9
        rw [cut_upd st.l q.1.id (addS q.1 (-1)) rfl] at hC9
        have hb57 := BibIs.blk hC9; have hm58 := BibIs.map hC9; have hT59 := BibIs.tb hC9
        refine s_nil (hK51 _ _ (genC [(0, (Vp g.tb 0)), (6, (Vp q.2 0))] ⟨g49, g50, trivial⟩ ?_))
        clear hK51; rintro E ⟨g60, g61, -⟩
        refine seq fun K62 hK62 => ?_
        refine regD (· = (g.p 1).mb) (.take 0 (.take 1 (.take 2 (.take 3 (.take 4 (.take 6 (.take 7 (.take 10 (.take 11 (.take 12 (.take 13 (.one 5 (.take 8 (.take 9 (.one 14 (.take 15 (.take 16 .done))))))))))))))))) mixed (by kernel_rfl) fun w63 hh64 hk65 => ?_
        have ka66 := (Kp.then0 ka56 hk65)
        refine o_y rfl (y_move (v := (Vp g.tb 0)) g60) ?_
        refine o_y rfl (y_move (v := (Vp q.2 0)) g61) ?_
        refine o_y rfl (y_nil rfl) ?_
        refine o_y rfl (y_fld fo36_1 rfl) ?_
        refine o_y rfl (y_load (v := (Vi (q.1.proto))) rfl (rd_sc sc3 (On.kp (hk65.get0 (hk55.get hb37 (not_or.2 ⟨(Ne.symm (box_ne h.nd hq (List.mem_of_getElem? (i := 0) (rfl : g.blocks[0]? = some g.tb)))), (not_or.2 ⟨(Ne.symm (box_ne h.nd hq (List.mem_of_getElem? (i := 1) (rfl : g.blocks[1]? = some g.mb)))), (not_or.2 ⟨(Ne.symm (box_ne h.nd hq (List.mem_of_getElem? (i := 2) (rfl : g.blocks[2]? = some g.i1.ib)))), (not_or.2 ⟨(Ne.symm (box_ne h.nd hq (List.mem_of_getElem? (i := 3) (rfl : g.blocks[3]? = some g.i1.sb)))), (not_or.2 ⟨(Ne.symm (box_ne h.nd hq (List.mem_of_getElem? (i := 4) (rfl : g.blocks[4]? = some g.i2.ib)))), (Ne.symm (box_ne h.nd hq (List.mem_of_getElem? (i := 5) (rfl : g.blocks[5]? = some g.i2.sb))))⟩)⟩)⟩)⟩)⟩))) (Ne.symm (box_ne h.nd hq (List.mem_of_getElem? (i := 11) (rfl : g.blocks[11]? = some (g.p 1).mb))))) rfl)) ?_
        refine o_y rfl (y_nil rfl) ?_
        refine o_y rfl (y_fld fo95_6 rfl) ?_
        refine o_y rfl (y_move (v := (Vp q.2 0)) g61) ?_
        refine o_y rfl (y_nil rfl) ?_
        refine o_y rfl (y_fld fo36_3 rfl) ?_
        refine o_y rfl (y_load (v := (t4 q.1.out)) rfl (rd_agg (vs := q.1.out.cs) ag34 (On.kp (hk65.get0 (hk55.get hb37 (not_or.2 ⟨(Ne.symm (box_ne h.nd hq (List.mem_of_getElem? (i := 0) (rfl : g.blocks[0]? = some g.tb)))), (not_or.2 ⟨(Ne.symm (box_ne h.nd hq (List.mem_of_getElem? (i := 1) (rfl : g.blocks[1]? = some g.mb)))), (not_or.2 ⟨(Ne.symm (box_ne h.nd hq (List.mem_of_getElem? (i := 2) (rfl : g.blocks[2]? = some g.i1.ib)))), (not_or.2 ⟨(Ne.symm (box_ne h.nd hq (List.mem_of_getElem? (i := 3) (rfl : g.blocks[3]? = some g.i1.sb)))), (not_or.2 ⟨(Ne.symm (box_ne h.nd hq (List.mem_of_getElem? (i := 4) (rfl : g.blocks[4]? = some g.i2.ib)))), (Ne.symm (box_ne h.nd hq (List.mem_of_getElem? (i := 5) (rfl : g.blocks[5]? = some g.i2.sb))))⟩)⟩)⟩)⟩)⟩))) (Ne.symm (box_ne h.nd hq (List.mem_of_getElem? (i := 11) (rfl : g.blocks[11]? = some (g.p 1).mb))))) (by kernel_rfl) rfl)) ?_
        refine o_one ?_
        refine c_e rfl (e_call ca51 (args := [(Vi (q.1.proto))]) rfl (kind_lit hk _)) ?_
        rintro _ w67 ⟨rfl, hk68⟩
        have ka69 := (Kp.then0 ka66 hk68)
        have ks70 : Kp (· = (g.p 1).mb) w63 w67 := (Kp.then0 (Kp.refl _ _) hk68)
        refine ⟨ks70, ?_⟩
        refine o_y rfl (y_idxA ao93 sz92 rfl (i := 1) rfl (by omega)) ?_
        refine o_y rfl (y_load (v := (Vp ((g.p 1).pb) 0)) rfl (rd_sc sc92 (On.kp (hk65.get0 hb57) (blocks_ne h.nd (i := 0) (j := 11) (by decide) rfl rfl)) rfl)) ?_
        refine o_one ?_
        have hf71 := (BibIs.k0 (BibIs.k0 hC9 hk65) hk68)
        refine c_e rfl (e_call ca52 (args := [(Vp ((g.p 1).pb) 0), (t4 q.1.out)]) rfl (give_spec (BibIs.pool hf71 1 (by omega)) (ok.pool 1 (by omega)) q.1.out hr3)) ?_
        rintro _ w72 ⟨rfl, hp74, hk73⟩
        have hD9 := BibIs.pool_put hf71 (k := 1) (by omega) hp74 hk73
        have ka75 := (Kp.trans ka69 hk73 (fun _ _ e => (fun e => (.inr (.inr (.inr (.inr (.inr (.inr (.inr e)))))))) e))
        have ks76 := (Kp.trans ks70 hk73 (fun _ _ e => e))
        refine ⟨ks76, ?_⟩
        refine o_y rfl (y_assign (v := Vt) rfl) ?_
        refine o_y rfl (y_assign (v := (Vi ((pGive (g.p 1).l (st.h 1) q.1.out).1))) rfl) ?_
        refine o_done (hK62 _ _ (genC [(4, Vt), (5, (Vi ((pGive (g.p 1).l (st.h 1) q.1.out).1)))] ⟨rfl, rfl, trivial⟩ ?_))
        clear hK62; rintro E ⟨g77, g78, -⟩
        refine ret (hret _ _ [Vt, (Vi ((pGive (g.p 1).l (st.h 1) q.1.out).1))] ⟨g77, g78, trivial⟩ ?_)
        exact ⟨rfl, hD9, ka75⟩

theorem drop_gone_2 {g : BibG} {st : BibS} {w : World} (ok : BibOk g) (h : BibIs g st w) (q : Binding × Nat) (hq : q ∈ st.l) (hs : q.1.sessions = 1) (hst : q.1.static = false) (hk : kindI q.1.proto = 2) (hu : ∀ q' ∈ st.l, k6 q'.1.proto q'.1.inn = k6 q.1.proto q.1.inn → q' = q) (hv : ∀ q' ∈ st.l, k4 q'.1.proto q'.1.out = k4 q.1.proto q.1.out → q' = q) (hr : (-9223372036854775808 ≤ q.1.proto ∧ q.1.proto ≤ 9223372036854775807) ∧ (-9223372036854775808 ≤ q.1.inn.port ∧ q.1.inn.port ≤ 9223372036854775807) ∧ (-9223372036854775808 ≤ q.1.out.port ∧ q.1.out.port ≤ 9223372036854775807))  : Rets Tryd.prog 17 #[(.pointer (some ⟨g.tb, 0, none⟩)), (.int .i64 (q.1.id))] w fun v w' => v = .tuple #[.bool true, .int .i64 (pGive (g.p 2).l (st.h 2) q.1.out).1] ∧ BibIs g ⟨st.last, cutL st.l q.1.id, setH st.h 2 (pGive (g.p 2).l (st.h 2) q.1.out).2⟩ w' ∧ Kp (fun k => k = q.2 ∨ k = g.tb ∨ k = g.mb ∨ k = g.i1.ib ∨ k = g.i1.sb ∨ k = g.i2.ib ∨ k = g.i2.sb ∨ k = (g.p 2).mb) w w' := by
  refine enter Tryd.func17 rfl Tryd.ntmps17 rfl fun Q hret hend E hE => ?_
  have g1 : E 0 = (Vp g.tb 0) := hE 0
  have g2 : E 1 = (Vi (q.1.id)) := hE 1
  clear hE
  have hb0 := h.blk; have hm0 := h.map; have hT0 := h.tb; have hn1 : g.tb ≠ g.mb := blk_ne_map h.blk h.map
  have hag := h.aget hq; have hq3 := h.good hq; unfold inI at hq3; have hq2 := h.box q hq
  have hr3 := hr.2.2
  refine seq fun K3 hK3 => ?_
  refine reg ?_
  refine s_y (y_assign (v := Vf) rfl) rfl ?_
  refine s_y (y_assign (v := (Vi 0)) rfl) rfl ?_
  refine s_nil (hK3 _ _ (genC [(0, (Vp g.tb 0)), (1, (Vi (q.1.id)))] ⟨g1, g2, trivial⟩ ?_))
  clear hK3; rintro E ⟨g4, g5, -⟩
  refine seq fun K6 hK6 => ?_
  refine seq fun K7 hK7 => ?_
  refine reg ?_
  refine s_y (y_move (v := (Vp g.tb 0)) g4) rfl ?_
  refine s_e (e_call ca49 (args := [(Vp g.tb 0)]) rfl (bnone_spec h)) rfl ?_
  rintro _ w8 ⟨rfl, hk9⟩
  have ka10 : Kp (fun k => k = q.2 ∨ k = g.tb ∨ k = g.mb ∨ k = g.i1.ib ∨ k = g.i1.sb ∨ k = g.i2.ib ∨ k = g.i2.sb ∨ k = (g.p 2).mb) w w8 := (Kp.then0 (Kp.refl _ _) hk9)
  refine s_nil (hK7 _ _ (genC [(0, (Vp g.tb 0)), (1, (Vi (q.1.id))), (9, Vf)] ⟨g4, g5, rfl, trivial⟩ ?_))
  clear hK7; rintro E ⟨g11, g12, g13, -⟩
  refine cond_f g13 ?_
  refine skip (hK6 _ _ (genC [(0, (Vp g.tb 0)), (1, (Vi (q.1.id)))] ⟨g11, g12, trivial⟩ ?_))
  clear hK6; rintro E ⟨g14, g15, -⟩
  refine seq fun K16 hK16 => ?_
  refine reg ?_
  refine s_y (y_move (v := (Vp g.tb 0)) g14) rfl ?_
  refine s_y (y_nil rfl) rfl ?_
  refine s_y (y_fld fo95_3 rfl) rfl ?_
  have hb17 := (hk9.get0 hb0)
  refine s_y (y_load (v := (.map (some g.mb))) rfl (rd_sc sc91 (On.now hb17) rfl)) rfl ?_
  refine s_y (y_move (v := (Vi (q.1.id))) g15) rfl ?_
  have hf18 := (hm0.kp hk9 id)
  refine s_y (y_lookup2_some kf3 Tryd.underlying91 ze101 (MapOn.now hf18) rfl rfl (show inI q.1.id from inI_of (by omega) (by omega)) hag) rfl ?_
  refine s_y (y_move (v := (.tuple #[(Vp q.2 0), Vt])) rfl) rfl ?_
  refine s_y (y_ext rfl (v := (Vp q.2 0)) rfl) rfl ?_
  refine s_y (y_ext rfl (v := Vt) rfl) rfl ?_
  refine s_y (y_assign (v := (Vp q.2 0)) rfl) rfl ?_
  refine s_y (y_assign (v := Vt) rfl) rfl ?_
  refine s_nil (hK16 _ _ (genC [(0, (Vp g.tb 0)), (6, (Vp q.2 0)), (7, Vt)] ⟨g14, rfl, rfl, trivial⟩ ?_))
  clear hK16; rintro E ⟨g19, g20, g21, -⟩
  refine seq fun K22 hK22 => ?_
  refine block ?_
  refine seq fun K23 hK23 => ?_
  refine reg ?_
  refine s_y (y_move (v := Vt) g21) rfl ?_
  refine s_y (y_not rfl) rfl ?_
  refine s_y (y_assign (v := Vf) rfl) rfl ?_
  refine s_nil (hK23 _ _ (genC [(0, (Vp g.tb 0)), (6, (Vp q.2 0)), (19, Vf)] ⟨g19, g20, rfl, trivial⟩ ?_))
  clear hK23; rintro E ⟨g24, g25, g26, -⟩
  refine cond_f g26 ?_
  refine seq fun K27 hK27 => ?_
  refine reg ?_
  refine s_y (y_move (v := (Vp q.2 0)) g25) rfl ?_
  refine s_y (y_nil rfl) rfl ?_
  refine s_y (y_fld fo36_5 rfl) rfl ?_
  have hb28 := (hk9.get0 hq2)
  refine s_y (y_load (v := (Vi (q.1.sessions))) rfl (rd_sc sc3 (On.now hb28) rfl)) rfl ?_
  refine s_y (y_eql rfl rfl) rfl ?_
  refine s_y (y_assign (v := (.bool (decide ((q.1.sessions : Int) = 0)))) rfl) rfl ?_
  refine s_nil (hK27 _ _ (genC [(0, (Vp g.tb 0)), (6, (Vp q.2 0)), (22, (.bool (decide ((q.1.sessions : Int) = 0))))] ⟨g24, g25, rfl, trivial⟩ ?_))
  clear hK27; rintro E ⟨g29, g30, g31, -⟩
  refine cond_d g31 (fun c32 => ?_) (fun c32 => ?_)
  · omega
  · refine skip (hK22 _ _ (genC [(0, (Vp g.tb 0)), (6, (Vp q.2 0))] ⟨g29, g30, trivial⟩ ?_))
    clear hK22; rintro E ⟨g33, g34, -⟩
    refine seq fun K35 hK35 => ?_
    refine reg ?_
    refine s_y (y_move (v := (Vp q.2 0)) g34) rfl ?_
    refine s_y (y_nil rfl) rfl ?_
    refine s_y (y_fld fo36_5 rfl) rfl ?_
    refine s_y (y_load (v := (Vi (q.1.sessions))) rfl (rd_sc sc3 (On.now hb28) rfl)) rfl ?_
    refine s_y (y_sub rfl rfl (c := q.1.sessions - 1) (by omega) rfl) rfl ?_
    refine s_y (y_nil rfl) rfl ?_
    refine s_y (y_fld fo36_5 rfl) rfl ?_
    refine s_e0 (e_storeV (cs' := #[(Vi (q.1.id)), (Vi (q.1.proto)), (u8 q.1.inn.addr.b0), (u8 q.1.inn.addr.b1), (u8 q.1.inn.addr.b2), (u8 q.1.inn.addr.b3), (u8 q.1.inn.addr.b4), (u8 q.1.inn.addr.b5), (u8 q.1.inn.addr.b6), (u8 q.1.inn.addr.b7), (u8 q.1.inn.addr.b8), (u8 q.1.inn.addr.b9), (u8 q.1.inn.addr.b10), (u8 q.1.inn.addr.b11), (u8 q.1.inn.addr.b12), (u8 q.1.inn.addr.b13), (u8 q.1.inn.addr.b14), (u8 q.1.inn.addr.b15), (Vi (q.1.inn.port)), (u8 q.1.out.addr.a), (u8 q.1.out.addr.b), (u8 q.1.out.addr.c), (u8 q.1.out.addr.d), (Vi (q.1.out.port)), (.bool (q.1.static)), (Vi (q.1.sessions - 1))]) [(Vi (q.1.sessions - 1))] rfl (v := (Vi (q.1.sessions - 1))) rfl rfl sz3 hb28 rfl rfl rfl) ?_
    rintro _ w36 ⟨hb37, hk38⟩
    have ka39 := (Kp.trans ka10 hk38 (fun _ _ e => (fun e => (.inl e)) e))
    refine s_nil (hK35 _ _ (genC [(0, (Vp g.tb 0)), (6, (Vp q.2 0))] ⟨g33, g34, trivial⟩ ?_))
    clear hK35; rintro E ⟨g40, g41, -⟩
    refine seq fun K42 hK42 => ?_
    refine seq fun K43 hK43 => ?_
    refine reg ?_
    refine s_y (y_move (v := (Vp q.2 0)) g41) rfl ?_
    refine s_y (y_nil rfl) rfl ?_
    refine s_y (y_fld fo36_4 rfl) rfl ?_
    refine s_y (y_load (v := (.bool (q.1.static))) rfl (rd_sc sc4 (On.now hb37) rfl)) rfl ?_
    refine s_y (y_move (v := (.bool (q.1.static))) rfl) rfl ?_
    refine (Bool.eq_false_or_eq_true (q.1.static)).elim (fun c44 => ?_) (fun c44 => ?_)
    · rw [hst] at c44; cases c44
    · refine s_gy (.yes rfl (congrArg Value.bool c44)) (y_move (v := (Vp q.2 0)) g41) rfl ?_
      refine s_gy (.yes rfl (congrArg Value.bool c44)) (y_nil rfl) rfl ?_
      refine s_gy (.yes rfl (congrArg Value.bool c44)) (y_fld fo36_5 rfl) rfl ?_
      refine s_gy (.yes rfl (congrArg Value.bool c44)) (y_load (v := (Vi (q.1.sessions - 1))) rfl (rd_sc sc3 (On.now hb37) rfl)) rfl ?_
      refine s_gy (.yes rfl (congrArg Value.bool c44)) (y_gtr rfl rfl) rfl ?_
      refine s_y (y_pick_f (congrArg Value.bool c44) (v := (.bool (decide ((0 : Int) < q.1.sessions - 1)))) rfl) rfl ?_
      refine s_nil (hK43 _ _ (genC [(0, (Vp g.tb 0)), (6, (Vp q.2 0)), (45, (.bool (decide ((0 : Int) < q.1.sessions - 1))))] ⟨g40, g41, rfl, trivial⟩ ?_))
      clear hK43; rintro E ⟨g45, g46, g47, -⟩
      refine cond_d g47 (fun c48 => ?_) (fun c48 => ?_)
      · omega
      · refine skip (hK42 _ _ (genC [(0, (Vp g.tb 0)), (6, (Vp q.2 0))] ⟨g45, g46, trivial⟩ ?_))
        clear hK42; rintro E ⟨g49, g50, -⟩
        refine seq fun K51 hK51 => ?_
        refine reg ?_
        refine s_y (y_move (v := (Vp g.tb 0)) g49) rfl ?_
        refine s_y (y_move (v := (Vp q.2 0)) g50) rfl ?_
        refine s_y (y_nil rfl) rfl ?_
        refine s_y (y_load (v := (bv (⟨q.1.id, q.1.proto, q.1.inn, q.1.out, q.1.static, q.1.sessions - 1⟩ : Binding))) rfl (rd_agg (vs := [(Vi (q.1.id)), (Vi (q.1.proto)), (u8 q.1.inn.addr.b0), (u8 q.1.inn.addr.b1), (u8 q.1.inn.addr.b2), (u8 q.1.inn.addr.b3), (u8 q.1.inn.addr.b4), (u8 q.1.inn.addr.b5), (u8 q.1.inn.addr.b6), (u8 q.1.inn.addr.b7), (u8 q.1.inn.addr.b8), (u8 q.1.inn.addr.b9), (u8 q.1.inn.addr.b10), (u8 q.1.inn.addr.b11), (u8 q.1.inn.addr.b12), (u8 q.1.inn.addr.b13), (u8 q.1.inn.addr.b14), (u8 q.1.inn.addr.b15), (Vi (q.1.inn.port)), (u8 q.1.out.addr.a), (u8 q.1.out.addr.b), (u8 q.1.out.addr.c), (u8 q.1.out.addr.d), (Vi (q.1.out.port)), (.bool (q.1.static)), (Vi (q.1.sessions - 1))]) ag36 (On.now hb37) (by kernel_rfl) rfl)) rfl ?_
        have kc52 : Kp (· = q.2) w w8 := (Kp.then0 (Kp.refl _ _) hk9)
        have kc53 : Kp (· = q.2) w w36 := (Kp.trans kc52 hk38 (fun _ _ e => e))
        have hB9 := BibIs.upd h hq kc53 (addS q.1 (-1)) rfl rfl rfl rfl hb37
        refine s_e (e_call ca50 (args := [(Vp g.tb 0), (bv (⟨q.1.id, q.1.proto, q.1.inn, q.1.out, q.1.static, q.1.sessions - 1⟩ : Binding))]) rfl (cutb_spec ok hB9 (addS q.1 (-1), q.2) (upd_mem hq _) (addS q.1 (-1)) rfl rfl rfl rfl (upd_uniq (fun b => k6 b.proto b.inn) rfl h.ids hq hu) (upd_uniq (fun b => k4 b.proto b.out) rfl h.ids hq hv) hr)) rfl ?_
        rintro _ w54 ⟨rfl, hC9, hk55⟩
        have ka56 := (Kp.trans ka39 hk55 (fun _ _ e => (fun e => e.elim (fun e => (.inr (.inl e))) (fun e => e.elim (fun e => (.inr (.inr (.inl e)))) (fun e => e.elim (fun e => (.inr (.inr (.inr (.inl e))))) (fun e => e.elim (fun e => (.inr (.inr (.inr (.inr (.inl e)))))) (fun e => e.elim (fun e => (.inr (.inr (.inr (.inr (.inr (.inl e))))))) (fun e => (.inr (.inr (.inr (.inr (.inr (.inr (.inl e))))))))))))) e))
        replace hC9 : BibIs g ⟨st.last, cutL (updL st.l q.1.id fun _ => addS q.1 (-1)) q.1.id, st.h⟩ w54 := hC9
        rw [cut_upd st.l q.1.id (addS q.1 (-1)) rfl] at hC9
        have hb57 := BibIs.blk hC9; have hm58 := BibIs.map hC9; have hT59 := BibIs.tb hC9
        refine s_nil (hK51 _ _ (genC [(0, (Vp g.tb 0)), (6, (Vp q.2 0))] ⟨g49, g50, trivial⟩ ?_))
        clear hK51; rintro E ⟨g60, g61, -⟩
        refine seq fun K62 hK62 => ?_
        refine regD (· = (g.p 2).mb) (.take 0 (.take 1 (.take 2 (.take 3 (.take 4 (.take 6 (.take 7 (.take 10 (.take 11 (.take 12 (.take 13 (.one 5 (.take 8 (.take 9 (.one 14 (.take 15 (.take 16 .done))))))))))))))))) mixed (by kernel_rfl) fun w63 hh64 hk65 => ?_
        have ka66 := (Kp.then0 ka56 hk65)
        refine o_y rfl (y_move (v := (Vp g.tb 0)) g60) ?_
        refine o_y rfl (y_move (v := (Vp q.2 0)) g61) ?_
        refine o_y rfl (y_nil rfl) ?_
        refine o_y rfl (y_fld fo36_1 rfl) ?_
        refine o_y rfl (y_load (v := (Vi (q.1.proto))) rfl (rd_sc sc3 (On.kp (hk65.get0 (hk55.get hb37 (not_or.2 ⟨(Ne.symm (box_ne h.nd hq (List.mem_of_getElem? (i := 0) (rfl : g.blocks[0]? = some g.tb)))), (not_or.2 ⟨(Ne.symm (box_ne h.nd hq (List.mem_of_getElem? (i := 1) (rfl : g.blocks[1]? = some g.mb)))), (not_or.2 ⟨(Ne.symm (box_ne h.nd hq (List.mem_of_getElem? (i := 2) (rfl : g.blocks[2]? = some g.i1.ib)))), (not_or.2 ⟨(Ne.symm (box_ne h.nd hq (List.mem_of_getElem? (i := 3) (rfl : g.blocks[3]? = some g.i1.sb)))), (not_or.2 ⟨(Ne.symm (box_ne h.nd hq (List.mem_of_getElem? (i := 4) (rfl : g.blocks[4]? = some g.i2.ib)))), (Ne.symm (box_ne h.nd hq (List.mem_of_getElem? (i := 5) (rfl : g.blocks[5]? = some g.i2.sb))))⟩)⟩)⟩)⟩)⟩))) (Ne.symm (box_ne h.nd hq (List.mem_of_getElem? (i := 14) (rfl : g.blocks[14]? = some (g.p 2).mb))))) rfl)) ?_
        refine o_y rfl (y_nil rfl) ?_
        refine o_y rfl (y_fld fo95_6 rfl) ?_
        refine o_y rfl (y_move (v := (Vp q.2 0)) g61) ?_
        refine o_y rfl (y_nil rfl) ?_
        refine o_y rfl (y_fld fo36_3 rfl) ?_
        refine o_y rfl (y_load (v := (t4 q.1.out)) rfl (rd_agg (vs := q.1.out.cs) ag34 (On.kp (hk65.get0 (hk55.get hb37 (not_or.2 ⟨(Ne.symm (box_ne h.nd hq (List.mem_of_getElem? (i := 0) (rfl : g.blocks[0]? = some g.tb)))), (not_or.2 ⟨(Ne.symm (box_ne h.nd hq (List.mem_of_getElem? (i := 1) (rfl : g.blocks[1]? = some g.mb)))), (not_or.2 ⟨(Ne.symm (box_ne h.nd hq (List.mem_of_getElem? (i := 2) (rfl : g.blocks[2]? = some g.i1.ib)))), (not_or.2 ⟨(Ne.symm (box_ne h.nd hq (List.mem_of_getElem? (i := 3) (rfl : g.blocks[3]? = some g.i1.sb)))), (not_or.2 ⟨(Ne.symm (box_ne h.nd hq (List.mem_of_getElem? (i := 4) (rfl : g.blocks[4]? = some g.i2.ib)))), (Ne.symm (box_ne h.nd hq (List.mem_of_getElem? (i := 5) (rfl : g.blocks[5]? = some g.i2.sb))))⟩)⟩)⟩)⟩)⟩))) (Ne.symm (box_ne h.nd hq (List.mem_of_getElem? (i := 14) (rfl : g.blocks[14]? = some (g.p 2).mb))))) (by kernel_rfl) rfl)) ?_
        refine o_one ?_
        refine c_e rfl (e_call ca51 (args := [(Vi (q.1.proto))]) rfl (kind_lit hk _)) ?_
        rintro _ w67 ⟨rfl, hk68⟩
        have ka69 := (Kp.then0 ka66 hk68)
        have ks70 : Kp (· = (g.p 2).mb) w63 w67 := (Kp.then0 (Kp.refl _ _) hk68)
        refine ⟨ks70, ?_⟩
        refine o_y rfl (y_idxA ao93 sz92 rfl (i := 2) rfl (by omega)) ?_
        refine o_y rfl (y_load (v := (Vp ((g.p 2).pb) 0)) rfl (rd_sc sc92 (On.kp (hk65.get0 hb57) (blocks_ne h.nd (i := 0) (j := 14) (by decide) rfl rfl)) rfl)) ?_
        refine o_one ?_
        have hf71 := (BibIs.k0 (BibIs.k0 hC9 hk65) hk68)
        refine c_e rfl (e_call ca52 (args := [(Vp ((g.p 2).pb) 0), (t4 q.1.out)]) rfl (give_spec (BibIs.pool hf71 2 (by omega)) (ok.pool 2 (by omega)) q.1.out hr3)) ?_
        rintro _ w72 ⟨rfl, hp74, hk73⟩
        have hD9 := BibIs.pool_put hf71 (k := 2) (by omega) hp74 hk73
        have ka75 := (Kp.trans ka69 hk73 (fun _ _ e => (fun e => (.inr (.inr (.inr (.inr (.inr (.inr (.inr e)))))))) e))
        have ks76 := (Kp.trans ks70 hk73 (fun _ _ e => e))
        refine ⟨ks76, ?_⟩
        refine o_y rfl (y_assign (v := Vt) rfl) ?_
        refine o_y rfl (y_assign (v := (Vi ((pGive (g.p 2).l (st.h 2) q.1.out).1))) rfl) ?_
        refine o_done (hK62 _ _ (genC [(4, Vt), (5, (Vi ((pGive (g.p 2).l (st.h 2) q.1.out).1)))] ⟨rfl, rfl, trivial⟩ ?_))
        clear hK62; rintro E ⟨g77, g78, -⟩
        refine ret (hret _ _ [Vt, (Vi ((pGive (g.p 2).l (st.h 2) q.1.out).1))] ⟨g77, g78, trivial⟩ ?_)
        exact ⟨rfl, hD9, ka75⟩

end Go.Proofs.YtdcnblafepgheaaDoor
