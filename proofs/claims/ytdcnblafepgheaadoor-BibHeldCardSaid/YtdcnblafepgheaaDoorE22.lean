/-
  Written by a program (wip/walks).
-/
import Derived.Test.YtdcnblafepgheaaDoorE21
namespace Go.Proofs.YtdcnblafepgheaaDoor
open Go Go.V
set_option maxRecDepth 100000
theorem mayE_no {g : BibG} {st : BibS} {p : Int} {t : T6} (hk : kindI p < 0) : mayE g st p t = 10 := by unfold mayE; rw [if_pos hk]
theorem may_no {g : BibG} {st : BibS} {w : World} (ok : BibOk g) (h : BibIs g st w) (p : Int) (hp : -9223372036854775808 ≤ p ∧ p ≤ 9223372036854775807) (hk : kindI p < 0) (t : T6) (ht : -9223372036854775808 ≤ t.port ∧ t.port ≤ 9223372036854775807) : Rets Tryd.prog 46 #[.pointer (some ⟨g.tb, 0, none⟩), .int .i64 p, t6 t] w fun v w' => v = .int .i64 10 ∧ K0 w w' :=
  (mayb_spec ok h p t hp ht).mono fun v w1 h9 => ⟨by rw [h9.1, mayE_no hk], h9.2⟩
theorem add_no {g : BibG} {st : BibS} {w : World} (ok : BibOk g) (h : BibIs g st w) (p : Int) (hp : -9223372036854775808 ≤ p ∧ p ≤ 9223372036854775807) (hk : kindI p < 0) (t : T6) (ht : -9223372036854775808 ≤ t.port ∧ t.port ≤ 9223372036854775807)  : Rets Tryd.prog 13 #[(.pointer (some ⟨g.tb, 0, none⟩)), (.int .i64 p), (t6 t)] w fun v w' => v = .tuple #[bv zeroB, .int .i64 10] ∧ K0 w w' := by
  refine enter Tryd.func13 rfl Tryd.ntmps13 rfl fun Q hret hend E hE => ?_
  have g1 : E 0 = (Vp g.tb 0) := hE 0
  have g2 : E 1 = (Vi p) := hE 1
  have g3 : E 2 = (t6 t) := hE 2
  clear hE
  have hb0 := h.blk; have hm0 := h.map; have hT0 := h.tb; have hn1 : g.tb ≠ g.mb := blk_ne_map h.blk h.map
  refine seq fun K4 hK4 => ?_
  refine reg ?_
  refine s_e (e_box (v := (t6 t)) g3) rfl ?_
  rintro _ w5 ⟨rfl, hb6, hk7⟩
  have ka8 : Kp (fun _ => False) w w5 := (Kp.then0 (Kp.refl _ _) hk7)
  refine s_e (e_alloc ze36) rfl ?_
  rintro _ w9 ⟨rfl, hb10, hk11⟩
  have ka12 := (Kp.then0 ka8 hk11)
  refine s_y (y_assign (v := (Vi 0)) rfl) rfl ?_
  refine s_nil (hK4 _ _ (genC [(0, (Vp g.tb 0)), (1, (Vi p)), (5, (Vp w.heap.size 0)), (6, (Vp w5.heap.size 0))] ⟨g1, g2, rfl, rfl, trivial⟩ ?_))
  clear hK4; rintro E ⟨g13, g14, g15, g16, -⟩
  refine seq fun K17 hK17 => ?_
  refine seq fun K18 hK18 => ?_
  refine reg ?_
  refine s_y (y_move (v := (Vp g.tb 0)) g13) rfl ?_
  refine s_y (y_move (v := (Vi p)) g14) rfl ?_
  have hb19 := (hk11.get0 hb6)
  refine s_y (y_load (v := (t6 t)) g15 (rd_agg (vs := t.cs) ag32 (On.now hb19) (by kernel_rfl) rfl)) rfl ?_
  have hf20 := (BibIs.k0 (BibIs.k0 h hk7) hk11)
  refine s_e (e_call ca46 (args := [(Vp g.tb 0), (Vi p), (t6 t)]) rfl (may_no ok hf20 p hp hk t ht)) rfl ?_
  rintro _ w21 ⟨rfl, hk22⟩
  have ka23 := (Kp.then0 ka12 hk22)
  refine s_y (y_assign (v := (Vi 10)) rfl) rfl ?_
  refine s_nil (hK18 _ _ (genC [(0, (Vp g.tb 0)), (1, (Vi p)), (5, (Vp w.heap.size 0)), (6, (Vp w5.heap.size 0)), (8, (Vi 10))] ⟨g13, g14, g15, g16, rfl, trivial⟩ ?_))
  clear hK18; rintro E ⟨g24, g25, g26, g27, g28, -⟩
  refine seq fun K29 hK29 => ?_
  refine reg ?_
  refine s_y (y_move (v := (Vi 10)) g28) rfl ?_
  refine s_y (y_neq rfl rfl) rfl ?_
  refine s_nil (hK29 _ _ (genC [(0, (Vp g.tb 0)), (1, (Vi p)), (5, (Vp w.heap.size 0)), (6, (Vp w5.heap.size 0)), (8, (Vi 10)), (16, Vt)] ⟨g24, g25, g26, g27, g28, rfl, trivial⟩ ?_))
  clear hK29; rintro E ⟨g30, g31, g32, g33, g34, g35, -⟩
  refine cond_t g35 ?_
  refine seq fun K36 hK36 => ?_
  refine reg ?_
  refine s_y (y_build (vs := []) (v := (.agg zBc.toArray)) rfl (fun _ => by kernel_rfl)) rfl ?_
  refine s_y (y_move (v := (Vi 10)) g34) rfl ?_
  have hb37 := (hk22.get0 hb10)
  refine s_e0 (e_storeV (cs' := zBc.toArray) zBc g33 (v := (.agg zBc.toArray)) rfl rfl sz36 hb37 rfl rfl rfl) ?_
  rintro _ w38 ⟨hb39, hk40⟩
  have ka41 := (Kp.fresh ka23 hk40 fun _ e => nl (nl hk7.size (Nat.le_refl _)) (Nat.le_of_eq e.symm))
  refine s_y (y_assign (v := (Vi 10)) rfl) rfl ?_
  refine s_nil (hK36 _ _ (genC [(6, (Vp w5.heap.size 0)), (7, (Vi 10))] ⟨g33, rfl, trivial⟩ ?_))
  clear hK36; rintro E ⟨g42, g43, -⟩
  refine ret (hret _ _ [(bv (⟨0, 0, (⟨(⟨0, 0, 0, 0, 0, 0, 0, 0, 0, 0, 0, 0, 0, 0, 0, 0⟩ : V6), 0⟩ : T6), (⟨(⟨0, 0, 0, 0⟩ : V4), 0⟩ : T4), false, 0⟩ : Binding)), (Vi 10)] ⟨⟨_, g42, (rd_agg (vs := zBc) ag36 (On.now hb39) (by kernel_rfl) rfl)⟩, g43, trivial⟩ ?_)
  exact ⟨rfl, ka41⟩

theorem bind_no {g : BibG} {st : BibS} {w : World} (h : BibIs g st w) (p : Int) (hk : kindI p < 0) (t : T6) (u : T4)  : Rets Tryd.prog 19 #[(.pointer (some ⟨g.tb, 0, none⟩)), (.int .i64 p), (t6 t), (t4 u)] w fun v w' => v = .tuple #[bv zeroB, .int .i64 10] ∧ K0 w w' := by
  refine enter Tryd.func19 rfl Tryd.ntmps19 rfl fun Q hret hend E hE => ?_
  have g1 : E 0 = (Vp g.tb 0) := hE 0
  have g2 : E 1 = (Vi p) := hE 1
  have g3 : E 2 = (t6 t) := hE 2
  have g4 : E 3 = (t4 u) := hE 3
  clear hE
  have hb0 := h.blk; have hm0 := h.map; have hT0 := h.tb; have hn1 : g.tb ≠ g.mb := blk_ne_map h.blk h.map
  refine seq fun K5 hK5 => ?_
  refine reg ?_
  refine s_e (e_box (v := (t6 t)) g3) rfl ?_
  rintro _ w6 ⟨rfl, hb7, hk8⟩
  have ka9 : Kp (fun _ => False) w w6 := (Kp.then0 (Kp.refl _ _) hk8)
  refine s_e (e_box (v := (t4 u)) g4) rfl ?_
  rintro _ w10 ⟨rfl, hb11, hk12⟩
  have ka13 := (Kp.then0 ka9 hk12)
  refine s_e (e_alloc ze36) rfl ?_
  rintro _ w14 ⟨rfl, hb15, hk16⟩
  have ka17 := (Kp.then0 ka13 hk16)
  refine s_y (y_assign (v := (Vi 0)) rfl) rfl ?_
  refine s_nil (hK5 _ _ (genC [(0, (Vp g.tb 0)), (1, (Vi p)), (6, (Vp w.heap.size 0)), (7, (Vp w6.heap.size 0)), (8, (Vp w10.heap.size 0))] ⟨g1, g2, rfl, rfl, rfl, trivial⟩ ?_))
  clear hK5; rintro E ⟨g18, g19, g20, g21, g22, -⟩
  refine seq fun K23 hK23 => ?_
  refine seq fun K24 hK24 => ?_
  refine reg ?_
  refine s_y (y_move (v := (Vp g.tb 0)) g18) rfl ?_
  have hf25 := (BibIs.k0 (BibIs.k0 (BibIs.k0 h hk8) hk12) hk16)
  refine s_e (e_call ca49 (args := [(Vp g.tb 0)]) rfl (bnone_spec hf25)) rfl ?_
  rintro _ w26 ⟨rfl, hk27⟩
  have ka28 := (Kp.then0 ka17 hk27)
  refine s_nil (hK24 _ _ (genC [(0, (Vp g.tb 0)), (1, (Vi p)), (6, (Vp w.heap.size 0)), (7, (Vp w6.heap.size 0)), (8, (Vp w10.heap.size 0)), (16, Vf)] ⟨g18, g19, g20, g21, g22, rfl, trivial⟩ ?_))
  clear hK24; rintro E ⟨g29, g30, g31, g32, g33, g34, -⟩
  refine cond_f g34 ?_
  refine skip (hK23 _ _ (genC [(0, (Vp g.tb 0)), (1, (Vi p)), (6, (Vp w.heap.size 0)), (7, (Vp w6.heap.size 0)), (8, (Vp w10.heap.size 0))] ⟨g29, g30, g31, g32, g33, trivial⟩ ?_))
  clear hK23; rintro E ⟨g35, g36, g37, g38, g39, -⟩
  refine seq fun K40 hK40 => ?_
  refine reg ?_
  refine s_y (y_move (v := (Vi p)) g36) rfl ?_
  refine s_e (e_call ca51 (args := [(Vi p)]) rfl (kind_spec p _)) rfl ?_
  rintro _ w41 ⟨rfl, hk42⟩
  have ka43 := (Kp.then0 ka28 hk42)
  refine s_y (y_assign (v := (Vi ((kindI p)))) rfl) rfl ?_
  refine s_nil (hK40 _ _ (genC [(0, (Vp g.tb 0)), (1, (Vi p)), (6, (Vp w.heap.size 0)), (7, (Vp w6.heap.size 0)), (8, (Vp w10.heap.size 0)), (10, (Vi ((kindI p))))] ⟨g35, g36, g37, g38, g39, rfl, trivial⟩ ?_))
  clear hK40; rintro E ⟨g44, g45, g46, g47, g48, g49, -⟩
  refine seq fun K50 hK50 => ?_
  refine block ?_
  refine seq fun K51 hK51 => ?_
  refine reg ?_
  refine s_y (y_move (v := (Vi ((kindI p)))) g49) rfl ?_
  refine s_y (y_lss rfl rfl) rfl ?_
  refine s_y (y_assign (v := (.bool (decide (((kindI p) : Int) < 0)))) rfl) rfl ?_
  refine s_nil (hK51 _ _ (genC [(0, (Vp g.tb 0)), (1, (Vi p)), (6, (Vp w.heap.size 0)), (7, (Vp w6.heap.size 0)), (8, (Vp w10.heap.size 0)), (10, (Vi ((kindI p)))), (20, (.bool (decide (((kindI p) : Int) < 0))))] ⟨g44, g45, g46, g47, g48, g49, rfl, trivial⟩ ?_))
  clear hK51; rintro E ⟨g52, g53, g54, g55, g56, g57, g58, -⟩
  refine cond_d g58 (fun c59 => ?_) (fun c59 => ?_)
  · refine seq fun K60 hK60 => ?_
    refine reg ?_
    refine s_y (y_build (vs := []) (v := (.agg zBc.toArray)) rfl (fun _ => by kernel_rfl)) rfl ?_
    have hb61 := (hk42.get0 (hk27.get0 hb15))
    refine s_e0 (e_storeV (cs' := zBc.toArray) zBc g56 (v := (.agg zBc.toArray)) rfl rfl sz36 hb61 rfl rfl rfl) ?_
    rintro _ w62 ⟨hb63, hk64⟩
    have ka65 := (Kp.fresh ka43 hk64 fun _ e => nl (nl (nl hk8.size hk12.size) (Nat.le_refl _)) (Nat.le_of_eq e.symm))
    refine s_y (y_assign (v := (Vi 10)) rfl) rfl ?_
    refine s_nil (hK60 _ _ (genC [(8, (Vp w10.heap.size 0)), (9, (Vi 10))] ⟨g56, rfl, trivial⟩ ?_))
    clear hK60; rintro E ⟨g66, g67, -⟩
    refine ret (hret _ _ [(bv (⟨0, 0, (⟨(⟨0, 0, 0, 0, 0, 0, 0, 0, 0, 0, 0, 0, 0, 0, 0, 0⟩ : V6), 0⟩ : T6), (⟨(⟨0, 0, 0, 0⟩ : V4), 0⟩ : T4), false, 0⟩ : Binding)), (Vi 10)] ⟨⟨_, g66, (rd_agg (vs := zBc) ag36 (On.now hb63) (by kernel_rfl) rfl)⟩, g67, trivial⟩ ?_)
    exact ⟨rfl, ka65⟩
  · omega

theorem unbind_no {g : BibG} {st : BibS} {w : World} (h : BibIs g st w) (p : Int) (hk : kindI p < 0) (t : T6)  : Rets Tryd.prog 20 #[(.pointer (some ⟨g.tb, 0, none⟩)), (.int .i64 p), (t6 t)] w fun v w' => v = .tuple #[bv zeroB, .int .i64 10] ∧ K0 w w' := by
  refine enter Tryd.func20 rfl Tryd.ntmps20 rfl fun Q hret hend E hE => ?_
  have g1 : E 0 = (Vp g.tb 0) := hE 0
  have g2 : E 1 = (Vi p) := hE 1
  have g3 : E 2 = (t6 t) := hE 2
  clear hE
  have hb0 := h.blk; have hm0 := h.map; have hT0 := h.tb; have hn1 : g.tb ≠ g.mb := blk_ne_map h.blk h.map
  refine seq fun K4 hK4 => ?_
  refine reg ?_
  refine s_e (e_box (v := (t6 t)) g3) rfl ?_
  rintro _ w5 ⟨rfl, hb6, hk7⟩
  have ka8 : Kp (fun _ => False) w w5 := (Kp.then0 (Kp.refl _ _) hk7)
  refine s_e (e_alloc ze36) rfl ?_
  rintro _ w9 ⟨rfl, hb10, hk11⟩
  have ka12 := (Kp.then0 ka8 hk11)
  refine s_y (y_assign (v := (Vi 0)) rfl) rfl ?_
  refine s_nil (hK4 _ _ (genC [(0, (Vp g.tb 0)), (1, (Vi p)), (5, (Vp w.heap.size 0)), (6, (Vp w5.heap.size 0))] ⟨g1, g2, rfl, rfl, trivial⟩ ?_))
  clear hK4; rintro E ⟨g13, g14, g15, g16, -⟩
  refine seq fun K17 hK17 => ?_
  refine block ?_
  refine seq fun K18 hK18 => ?_
  refine reg ?_
  refine s_y (y_move (v := (Vp g.tb 0)) g13) rfl ?_
  have hf19 := (BibIs.k0 (BibIs.k0 h hk7) hk11)
  refine s_e (e_call ca49 (args := [(Vp g.tb 0)]) rfl (bnone_spec hf19)) rfl ?_
  rintro _ w20 ⟨rfl, hk21⟩
  have ka22 := (Kp.then0 ka12 hk21)
  refine s_y (y_assign (v := Vf) rfl) rfl ?_
  refine s_nil (hK18 _ _ (genC [(0, (Vp g.tb 0)), (1, (Vi p)), (5, (Vp w.heap.size 0)), (6, (Vp w5.heap.size 0)), (10, Vf)] ⟨g13, g14, g15, g16, rfl, trivial⟩ ?_))
  clear hK18; rintro E ⟨g23, g24, g25, g26, g27, -⟩
  refine cond_f g27 ?_
  refine seq fun K28 hK28 => ?_
  refine reg ?_
  refine s_y (y_move (v := (Vi p)) g24) rfl ?_
  refine s_e (e_call ca51 (args := [(Vi p)]) rfl (kind_spec p _)) rfl ?_
  rintro _ w29 ⟨rfl, hk30⟩
  have ka31 := (Kp.then0 ka22 hk30)
  refine s_y (y_lss rfl rfl) rfl ?_
  refine s_y (y_assign (v := (.bool (decide (((kindI p) : Int) < 0)))) rfl) rfl ?_
  refine s_nil (hK28 _ _ (genC [(0, (Vp g.tb 0)), (1, (Vi p)), (5, (Vp w.heap.size 0)), (6, (Vp w5.heap.size 0)), (14, (.bool (decide (((kindI p) : Int) < 0))))] ⟨g23, g24, g25, g26, rfl, trivial⟩ ?_))
  clear hK28; rintro E ⟨g32, g33, g34, g35, g36, -⟩
  refine cond_d g36 (fun c37 => ?_) (fun c37 => ?_)
  · refine seq fun K38 hK38 => ?_
    refine reg ?_
    refine s_y (y_build (vs := []) (v := (.agg zBc.toArray)) rfl (fun _ => by kernel_rfl)) rfl ?_
    have hb39 := (hk30.get0 (hk21.get0 hb10))
    refine s_e0 (e_storeV (cs' := zBc.toArray) zBc g35 (v := (.agg zBc.toArray)) rfl rfl sz36 hb39 rfl rfl rfl) ?_
    rintro _ w40 ⟨hb41, hk42⟩
    have ka43 := (Kp.fresh ka31 hk42 fun _ e => nl (nl hk7.size (Nat.le_refl _)) (Nat.le_of_eq e.symm))
    refine s_y (y_assign (v := (Vi 10)) rfl) rfl ?_
    refine s_nil (hK38 _ _ (genC [(6, (Vp w5.heap.size 0)), (7, (Vi 10))] ⟨g35, rfl, trivial⟩ ?_))
    clear hK38; rintro E ⟨g44, g45, -⟩
    refine ret (hret _ _ [(bv (⟨0, 0, (⟨(⟨0, 0, 0, 0, 0, 0, 0, 0, 0, 0, 0, 0, 0, 0, 0, 0⟩ : V6), 0⟩ : T6), (⟨(⟨0, 0, 0, 0⟩ : V4), 0⟩ : T4), false, 0⟩ : Binding)), (Vi 10)] ⟨⟨_, g44, (rd_agg (vs := zBc) ag36 (On.now hb41) (by kernel_rfl) rfl)⟩, g45, trivial⟩ ?_)
    exact ⟨rfl, ka43⟩
  · omega

end Go.Proofs.YtdcnblafepgheaaDoor
