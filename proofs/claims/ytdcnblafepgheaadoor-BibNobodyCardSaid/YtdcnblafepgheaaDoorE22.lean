/-
  Written by a program (wip/walks).
-/
import Derived.Test.YtdcnblafepgheaaDoorE21
namespace Go.Proofs.YtdcnblafepgheaaDoor
open Go Go.V
set_option maxRecDepth 100000
theorem mayE_no {g : BibG} {st : BibS} {p : Int} {t : T6} (hk : kindI p < 0) : mayE g st p t = 10 := by unfold mayE; rw [if_pos hk]
theorem may_no {g : BibG} {st : BibS} {w : World} (ok : BibOk g) (h : BibIs g st w) (p : Int) (hp : -9223372036854775808 ≤ p ∧ p ≤ 9223372036854775807) (hk : kindI p < 0) (t : T6) (ht : -9223372036854775808 ≤ t.port ∧ t.port ≤ 9223372036854775807) : Rets Tryd.prog 46 #[.pointer (some ⟨g.tb, 0, none⟩), .int .i64 p, t6 t] w fun v w' => v = .int .i64 10 ∧ K0 w w' :=
  (mayb_spec ok h p t hp ht).mono fun v w1 h9 => ⟨by rw [h9.1, mayE_no hk], h9.2⟩
theorem add_no {g : BibG} {st : BibS} {w : World} (ok : BibOk g) (h : BibIs g st w) (p : Int) (hp : -9223372036854775808 ≤ p ∧ p ≤ 9223372036854775807) (hk : kindI p < 0) (t : T6) (ht : -9223372036854775808 ≤ t.port ∧ t.port ≤ 9223372036854775807)  : Rets Tryd.prog 13 #[(.pointer (some ⟨g.tb, 0, none⟩)), (.int .i64 p), (t6 t)] w fun v w' => v = .tuple #[bv zeroB, .int .i64 10] ∧ K0 w w' := by
  refine enter Tryd.func13 rfl Tryd.ntmps13 rfl fun Q hret hend E hE => ?_
  have g1 : E 0 = (Vp g.tb 0) := hE 0
  have g2 : E 1 = (Vi p) := hE 1
  have g3 : E 2 = (t6 t) := hE 2
  clear hE
  have hb0 := h.blk; have hm0 := h.map; have hT0 := h.tb; have hn1 : g.tb ≠ g.mb := blk_ne_map h.blk h.map
  refine seq fun K4 hK4 => ?_
  refine reg ?_
  refine s_e (e_box (v := (t6 t)) g3) rfl ?_
  rintro _ w5 ⟨rfl, hb6, hk7⟩
  have ka8 : Kp (fun _ => False) w w5 := (Kp.then0 (Kp.refl _ _) hk7)
  refine s_e (e_alloc ze36) rfl ?_
  rintro _ w9 ⟨rfl, hb10, hk11⟩
  have ka12 := (Kp.then0 ka8 hk11)
  refine s_y (y_assign (v := (Vi 0)) rfl) rfl ?_
  refine s_nil (hK4 _ _ (genC [(0, (Vp g.tb 0)), (1, (Vi p)), (5, (Vp w.heap.size 0)), (6, (Vp w5.heap.size 0))] ⟨g1, g2, rfl, rfl, trivial⟩ ?_))
  clear hK4; rintro E ⟨g13, g14, g15, g16, -⟩
  refine seq fun K17 hK17 => ?_
  refine seq fun K18 hK18 => ?_
  refine reg ?_
  refine s_y (y_move (v := (Vp g.tb 0)) g13) rfl ?_
  refine s_y (y_move (v := (Vi p)) g14) rfl ?_
  have hb19 := (hk11.get0 hb6)
  refine s_y (y_load (v := (t6 t)) g15 (rd_agg (vs := t.cs) ag32 (On.now hb19) (by kernel_rfl) rfl)) rfl ?_
  have hf20 := (BibIs.k0 (BibIs.k0 h hk7) hk11)
  refine s_e (e_call ca46 (args := [(Vp g.tb 0), (Vi p), (t6 t)]) rfl (may_no ok hf20 p hp hk t ht)) rfl ?_
  rintro _ w21 ⟨rfl, hk22⟩
  have ka23 := (Kp.then0 ka12 hk22)
  refine s_y (y_assign (v := (Vi 10)) rfl) rfl ?_
  refine s_nil (hK18 _ _ (genC [(0, (Vp g.tb 0)), (1, (Vi p)), (5, (Vp w.heap.size 0)), (6, (Vp w5.heap.size 0)), (8, (Vi 10))] ⟨g13, g14, g15, g16, rfl, trivial⟩ ?_))
  clear hK18; rintro E ⟨g24, g25, g26, g27, g28, -⟩
  refine seq fun K29 hK29 => ?_
  refine reg ?_
  refine s_y (y_move (v := (Vi 10)) g28) rfl ?_
  refine s_y (y_neq rfl rfl) rfl ?_
  refine s_nil (hK29 _ _ (genC [(0, (Vp g.tb 0)), (1, (Vi p)), (5, (Vp w.heap.size 0)), (6, (Vp w5.heap.size 0)), (8, (Vi 10)), (16, Vt)] ⟨g24, g25, g26, g27, g28, rfl, trivial⟩ ?_))
  clear hK29; rintro E ⟨g30, g31, g32, g33, g34, g35, -⟩
  refine cond_t g35 ?_
  refine seq fun K36 hK36 => ?_
  refine reg ?_
  refine s_y (y_build (vs := []) (v := (.agg zBc.toArray)) rfl (fun _ => by kernel_rfl)) rfl ?_
  refine s_y (y_move (v := (Vi 10)) g34) rfl ?_
  have hb37 := (hk22.get0 hb10)
  refine s_e0 (e_storeV (cs' := zBc.toArray) zBc g33 (v := (.agg zBc.toArray)) rfl rfl sz36 hb37 rfl rfl rfl) ?_
  rintro _ w38 ⟨hb39, hk40⟩
  have ka41 := (Kp.fresh ka23 hk40 fun _ e => nl (nl hk7.size (Nat.le_refl _)) (Nat.le_of_eq e.symm))
  refine s_y (y_assign (v := (Vi 10)) rfl) rfl ?_
  refine s_nil (hK36 _ _ (genC [(6, (Vp w5.heap.size 0)), (7, (Vi 10))] ⟨g33, rfl, trivial⟩ ?_))
  clear hK36; rintro E ⟨g42, g43, -⟩
  refine ret (hret _ _ [(bv (⟨0, 0, (⟨(⟨0, 0, 0, 0, 0, 0, 0, 0, 0, 0, 0, 0, 0, 0, 0, 0⟩ : V6), 0⟩ : T6), (⟨(⟨0, 0, 0, 0⟩ : V4), 0⟩ : T4), false, 0⟩ : Binding)), (Vi 10)] ⟨⟨_, g42, (rd_agg (vs := zBc) ag36 (On.now hb39) (by kernel_rfl) rfl)⟩, g43, trivial⟩ ?_)
  exact ⟨rfl, ka41⟩

end Go.Proofs.YtdcnblafepgheaaDoor
