/-
  Written by a program (wip/walks).
-/
import Derived.Test.YtdcnblafepgheaaDoorE28
namespace Go.Proofs.YtdcnblafepgheaaDoor
open Go Go.V
set_option maxRecDepth 100000
theorem bnone_nil {w : World}  : Rets Tryd.prog 49 #[(.pointer none)] w fun v w' => v = (.bool true) ∧ K0 w w' := by
  refine enter Tryd.func49 rfl Tryd.ntmps49 rfl fun Q hret hend E hE => ?_
  have g1 : E 0 = (.pointer none) := hE 0
  clear hE
  refine seq fun K2 hK2 => ?_
  refine reg ?_
  refine s_y (y_assign (v := Vf) rfl) rfl ?_
  refine s_nil (hK2 _ _ (genC [(0, (.pointer none))] ⟨g1, trivial⟩ ?_))
  clear hK2; rintro E ⟨g3, -⟩
  refine seq fun K4 hK4 => ?_
  refine reg ?_
  refine s_y (y_move (v := (.pointer none)) g3) rfl ?_
  refine s_y (y_peq0 Tryd.underlying22 rfl rfl) rfl ?_
  refine s_y (y_move (v := Vt) rfl) rfl ?_
  refine s_no (.no rfl (c := true) rfl rfl) rfl ?_
  refine s_no (.no rfl (c := true) rfl rfl) rfl ?_
  refine s_no (.no rfl (c := true) rfl rfl) rfl ?_
  refine s_no (.no rfl (c := true) rfl rfl) rfl ?_
  refine s_no (.no rfl (c := true) rfl rfl) rfl ?_
  refine s_y (y_pick_t rfl (v := Vt) rfl) rfl ?_
  refine s_y (y_assign (v := Vt) rfl) rfl ?_
  refine s_nil (hK4 _ _ (genC [(2, Vt)] ⟨rfl, trivial⟩ ?_))
  clear hK4; rintro E ⟨g5, -⟩
  refine ret (hret _ _ [Vt] ⟨g5, trivial⟩ ?_)
  exact ⟨rfl, (Kp.refl _ _)⟩

theorem in_nil {w : World} (p : Int) (t : T6)  : Rets Tryd.prog 43 #[(.pointer none), (.int .i64 p), (t6 t)] w fun v w' => v = (.tuple #[(bv zeroB), (.bool false)]) ∧ K0 w w' := by
  refine enter Tryd.func43 rfl Tryd.ntmps43 rfl fun Q hret hend E hE => ?_
  have g1 : E 0 = (.pointer none) := hE 0
  have g2 : E 1 = (Vi p) := hE 1
  have g3 : E 2 = (t6 t) := hE 2
  clear hE
  refine seq fun K4 hK4 => ?_
  refine reg ?_
  refine s_e (e_box (v := (t6 t)) g3) rfl ?_
  rintro _ w5 ⟨rfl, hb6, hk7⟩
  have ka8 : Kp (fun _ => False) w w5 := (Kp.then0 (Kp.refl _ _) hk7)
  refine s_e (e_alloc ze36) rfl ?_
  rintro _ w9 ⟨rfl, hb10, hk11⟩
  have ka12 := (Kp.then0 ka8 hk11)
  refine s_y (y_assign (v := Vf) rfl) rfl ?_
  refine s_nil (hK4 _ _ (genC [(0, (.pointer none)), (1, (Vi p)), (5, (Vp w.heap.size 0)), (6, (Vp w5.heap.size 0))] ⟨g1, g2, rfl, rfl, trivial⟩ ?_))
  clear hK4; rintro E ⟨g13, g14, g15, g16, -⟩
  refine seq fun K17 hK17 => ?_
  refine seq fun K18 hK18 => ?_
  refine reg ?_
  refine s_y (y_move (v := (.pointer none)) g13) rfl ?_
  refine s_e (e_call ca49 (args := [(.pointer none)]) rfl (bnone_nil)) rfl ?_
  rintro _ w19 ⟨rfl, hk20⟩
  have ka21 := (Kp.then0 ka12 hk20)
  refine s_nil (hK18 _ _ (genC [(0, (.pointer none)), (1, (Vi p)), (5, (Vp w.heap.size 0)), (6, (Vp w5.heap.size 0)), (9, Vt)] ⟨g13, g14, g15, g16, rfl, trivial⟩ ?_))
  clear hK18; rintro E ⟨g22, g23, g24, g25, g26, -⟩
  refine cond_t g26 ?_
  refine seq fun K27 hK27 => ?_
  refine reg ?_
  refine s_y (y_build (vs := []) (v := (.agg zBc.toArray)) rfl (fun _ => by kernel_rfl)) rfl ?_
  have hb28 := (hk20.get0 hb10)
  refine s_e0 (e_storeV (cs' := zBc.toArray) zBc g25 (v := (.agg zBc.toArray)) rfl rfl sz36 hb28 rfl rfl rfl) ?_
  rintro _ w29 ⟨hb30, hk31⟩
  have ka32 := (Kp.fresh ka21 hk31 fun _ e => nl (nl hk7.size (Nat.le_refl _)) (Nat.le_of_eq e.symm))
  refine s_y (y_assign (v := Vf) rfl) rfl ?_
  refine s_nil (hK27 _ _ (genC [(6, (Vp w5.heap.size 0)), (7, Vf)] ⟨g25, rfl, trivial⟩ ?_))
  clear hK27; rintro E ⟨g33, g34, -⟩
  refine ret (hret _ _ [(bv (⟨0, 0, (⟨(⟨0, 0, 0, 0, 0, 0, 0, 0, 0, 0, 0, 0, 0, 0, 0, 0⟩ : V6), 0⟩ : T6), (⟨(⟨0, 0, 0, 0⟩ : V4), 0⟩ : T4), false, 0⟩ : Binding)), Vf] ⟨⟨_, g33, (rd_agg (vs := zBc) ag36 (On.now hb30) (by kernel_rfl) rfl)⟩, g34, trivial⟩ ?_)
  exact ⟨rfl, ka32⟩

theorem out_nil {w : World} (p : Int) (u : T4)  : Rets Tryd.prog 41 #[(.pointer none), (.int .i64 p), (t4 u)] w fun v w' => v = (.tuple #[(bv zeroB), (.bool false)]) ∧ K0 w w' := by
  refine enter Tryd.func41 rfl Tryd.ntmps41 rfl fun Q hret hend E hE => ?_
  have g1 : E 0 = (.pointer none) := hE 0
  have g2 : E 1 = (Vi p) := hE 1
  have g3 : E 2 = (t4 u) := hE 2
  clear hE
  refine seq fun K4 hK4 => ?_
  refine reg ?_
  refine s_e (e_box (v := (t4 u)) g3) rfl ?_
  rintro _ w5 ⟨rfl, hb6, hk7⟩
  have ka8 : Kp (fun _ => False) w w5 := (Kp.then0 (Kp.refl _ _) hk7)
  refine s_e (e_alloc ze36) rfl ?_
  rintro _ w9 ⟨rfl, hb10, hk11⟩
  have ka12 := (Kp.then0 ka8 hk11)
  refine s_y (y_assign (v := Vf) rfl) rfl ?_
  refine s_nil (hK4 _ _ (genC [(0, (.pointer none)), (1, (Vi p)), (5, (Vp w.heap.size 0)), (6, (Vp w5.heap.size 0))] ⟨g1, g2, rfl, rfl, trivial⟩ ?_))
  clear hK4; rintro E ⟨g13, g14, g15, g16, -⟩
  refine seq fun K17 hK17 => ?_
  refine seq fun K18 hK18 => ?_
  refine reg ?_
  refine s_y (y_move (v := (.pointer none)) g13) rfl ?_
  refine s_e (e_call ca49 (args := [(.pointer none)]) rfl (bnone_nil)) rfl ?_
  rintro _ w19 ⟨rfl, hk20⟩
  have ka21 := (Kp.then0 ka12 hk20)
  refine s_nil (hK18 _ _ (genC [(0, (.pointer none)), (1, (Vi p)), (5, (Vp w.heap.size 0)), (6, (Vp w5.heap.size 0)), (9, Vt)] ⟨g13, g14, g15, g16, rfl, trivial⟩ ?_))
  clear hK18; rintro E ⟨g22, g23, g24, g25, g26, -⟩
  refine cond_t g26 ?_
  refine seq fun K27 hK27 => ?_
  refine reg ?_
  refine s_y (y_build (vs := []) (v := (.agg zBc.toArray)) rfl (fun _ => by kernel_rfl)) rfl ?_
  have hb28 := (hk20.get0 hb10)
  refine s_e0 (e_storeV (cs' := zBc.toArray) zBc g25 (v := (.agg zBc.toArray)) rfl rfl sz36 hb28 rfl rfl rfl) ?_
  rintro _ w29 ⟨hb30, hk31⟩
  have ka32 := (Kp.fresh ka21 hk31 fun _ e => nl (nl hk7.size (Nat.le_refl _)) (Nat.le_of_eq e.symm))
  refine s_y (y_assign (v := Vf) rfl) rfl ?_
  refine s_nil (hK27 _ _ (genC [(6, (Vp w5.heap.size 0)), (7, Vf)] ⟨g25, rfl, trivial⟩ ?_))
  clear hK27; rintro E ⟨g33, g34, -⟩
  refine ret (hret _ _ [(bv (⟨0, 0, (⟨(⟨0, 0, 0, 0, 0, 0, 0, 0, 0, 0, 0, 0, 0, 0, 0, 0⟩ : V6), 0⟩ : T6), (⟨(⟨0, 0, 0, 0⟩ : V4), 0⟩ : T4), false, 0⟩ : Binding)), Vf] ⟨⟨_, g33, (rd_agg (vs := zBc) ag36 (On.now hb30) (by kernel_rfl) rfl)⟩, g34, trivial⟩ ?_)
  exact ⟨rfl, ka32⟩

theorem id_nil {w : World} (n : Int)  : Rets Tryd.prog 24 #[(.pointer none), (.int .i64 n)] w fun v w' => v = (.tuple #[(bv zeroB), (.bool false)]) ∧ K0 w w' := by
  refine enter Tryd.func24 rfl Tryd.ntmps24 rfl fun Q hret hend E hE => ?_
  have g1 : E 0 = (.pointer none) := hE 0
  have g2 : E 1 = (Vi n) := hE 1
  clear hE
  refine seq fun K3 hK3 => ?_
  refine reg ?_
  refine s_e (e_alloc ze36) rfl ?_
  rintro _ w4 ⟨rfl, hb5, hk6⟩
  have ka7 : Kp (fun _ => False) w w4 := (Kp.then0 (Kp.refl _ _) hk6)
  refine s_y (y_assign (v := Vf) rfl) rfl ?_
  refine s_nil (hK3 _ _ (genC [(0, (.pointer none)), (1, (Vi n)), (4, (Vp w.heap.size 0))] ⟨g1, g2, rfl, trivial⟩ ?_))
  clear hK3; rintro E ⟨g8, g9, g10, -⟩
  refine seq fun K11 hK11 => ?_
  refine seq fun K12 hK12 => ?_
  refine reg ?_
  refine s_y (y_move (v := (.pointer none)) g8) rfl ?_
  refine s_e (e_call ca49 (args := [(.pointer none)]) rfl (bnone_nil)) rfl ?_
  rintro _ w13 ⟨rfl, hk14⟩
  have ka15 := (Kp.then0 ka7 hk14)
  refine s_nil (hK12 _ _ (genC [(0, (.pointer none)), (1, (Vi n)), (4, (Vp w.heap.size 0)), (9, Vt)] ⟨g8, g9, g10, rfl, trivial⟩ ?_))
  clear hK12; rintro E ⟨g16, g17, g18, g19, -⟩
  refine cond_t g19 ?_
  refine seq fun K20 hK20 => ?_
  refine reg ?_
  refine s_y (y_build (vs := []) (v := (.agg zBc.toArray)) rfl (fun _ => by kernel_rfl)) rfl ?_
  have hb21 := (hk14.get0 hb5)
  refine s_e0 (e_storeV (cs' := zBc.toArray) zBc g18 (v := (.agg zBc.toArray)) rfl rfl sz36 hb21 rfl rfl rfl) ?_
  rintro _ w22 ⟨hb23, hk24⟩
  have ka25 := (Kp.fresh ka15 hk24 fun _ e => nl (nl (Nat.le_refl _) (Nat.le_refl _)) (Nat.le_of_eq e.symm))
  refine s_y (y_assign (v := Vf) rfl) rfl ?_
  refine s_nil (hK20 _ _ (genC [(4, (Vp w.heap.size 0)), (5, Vf)] ⟨g18, rfl, trivial⟩ ?_))
  clear hK20; rintro E ⟨g26, g27, -⟩
  refine ret (hret _ _ [(bv (⟨0, 0, (⟨(⟨0, 0, 0, 0, 0, 0, 0, 0, 0, 0, 0, 0, 0, 0, 0, 0⟩ : V6), 0⟩ : T6), (⟨(⟨0, 0, 0, 0⟩ : V4), 0⟩ : T4), false, 0⟩ : Binding)), Vf] ⟨⟨_, g26, (rd_agg (vs := zBc) ag36 (On.now hb23) (by kernel_rfl) rfl)⟩, g27, trivial⟩ ?_)
  exact ⟨rfl, ka25⟩

theorem may_nil {w : World} (p : Int) (t : T6)  : Rets Tryd.prog 46 #[(.pointer none), (.int .i64 p), (t6 t)] w fun v w' => v = (.int .i64 2) ∧ K0 w w' := by
  refine enter Tryd.func46 rfl Tryd.ntmps46 rfl fun Q hret hend E hE => ?_
  have g1 : E 0 = (.pointer none) := hE 0
  have g2 : E 1 = (Vi p) := hE 1
  have g3 : E 2 = (t6 t) := hE 2
  clear hE
  refine seq fun K4 hK4 => ?_
  refine reg ?_
  refine s_e (e_box (v := (t6 t)) g3) rfl ?_
  rintro _ w5 ⟨rfl, hb6, hk7⟩
  have ka8 : Kp (fun _ => False) w w5 := (Kp.then0 (Kp.refl _ _) hk7)
  refine s_y (y_assign (v := (Vi 0)) rfl) rfl ?_
  refine s_nil (hK4 _ _ (genC [(0, (.pointer none)), (1, (Vi p)), (5, (Vp w.heap.size 0))] ⟨g1, g2, rfl, trivial⟩ ?_))
  clear hK4; rintro E ⟨g9, g10, g11, -⟩
  refine seq fun K12 hK12 => ?_
  refine block ?_
  refine seq fun K13 hK13 => ?_
  refine reg ?_
  refine s_y (y_move (v := (.pointer none)) g9) rfl ?_
  refine s_e (e_call ca49 (args := [(.pointer none)]) rfl (bnone_nil)) rfl ?_
  rintro _ w14 ⟨rfl, hk15⟩
  have ka16 := (Kp.then0 ka8 hk15)
  refine s_y (y_assign (v := Vt) rfl) rfl ?_
  refine s_nil (hK13 _ _ (genC [(0, (.pointer none)), (1, (Vi p)), (5, (Vp w.heap.size 0)), (9, Vt)] ⟨g9, g10, g11, rfl, trivial⟩ ?_))
  clear hK13; rintro E ⟨g17, g18, g19, g20, -⟩
  refine cond_t g20 ?_
  refine seq fun K21 hK21 => ?_
  refine reg ?_
  refine s_y (y_assign (v := (Vi 2)) rfl) rfl ?_
  refine s_nil (hK21 _ _ (genC [(6, (Vi 2))] ⟨rfl, trivial⟩ ?_))
  clear hK21; rintro E ⟨g22, -⟩
  refine ret (hret _ _ [(Vi 2)] ⟨g22, trivial⟩ ?_)
  exact ⟨rfl, ka16⟩

theorem add_nil {w : World} (p : Int) (t : T6)  : Rets Tryd.prog 13 #[(.pointer none), (.int .i64 p), (t6 t)] w fun v w' => v = (.tuple #[(bv zeroB), (.int .i64 2)]) ∧ K0 w w' := by
  refine enter Tryd.func13 rfl Tryd.ntmps13 rfl fun Q hret hend E hE => ?_
  have g1 : E 0 = (.pointer none) := hE 0
  have g2 : E 1 = (Vi p) := hE 1
  have g3 : E 2 = (t6 t) := hE 2
  clear hE
  refine seq fun K4 hK4 => ?_
  refine reg ?_
  refine s_e (e_box (v := (t6 t)) g3) rfl ?_
  rintro _ w5 ⟨rfl, hb6, hk7⟩
  have ka8 : Kp (fun _ => False) w w5 := (Kp.then0 (Kp.refl _ _) hk7)
  refine s_e (e_alloc ze36) rfl ?_
  rintro _ w9 ⟨rfl, hb10, hk11⟩
  have ka12 := (Kp.then0 ka8 hk11)
  refine s_y (y_assign (v := (Vi 0)) rfl) rfl ?_
  refine s_nil (hK4 _ _ (genC [(0, (.pointer none)), (1, (Vi p)), (5, (Vp w.heap.size 0)), (6, (Vp w5.heap.size 0))] ⟨g1, g2, rfl, rfl, trivial⟩ ?_))
  clear hK4; rintro E ⟨g13, g14, g15, g16, -⟩
  refine seq fun K17 hK17 => ?_
  refine seq fun K18 hK18 => ?_
  refine reg ?_
  refine s_y (y_move (v := (.pointer none)) g13) rfl ?_
  refine s_y (y_move (v := (Vi p)) g14) rfl ?_
  have hb19 := (hk11.get0 hb6)
  refine s_y (y_load (v := (t6 t)) g15 (rd_agg (vs := t.cs) ag32 (On.now hb19) (by kernel_rfl) rfl)) rfl ?_
  refine s_e (e_call ca46 (args := [(.pointer none), (Vi p), (t6 t)]) rfl (may_nil _ t)) rfl ?_
  rintro _ w20 ⟨rfl, hk21⟩
  have ka22 := (Kp.then0 ka12 hk21)
  refine s_y (y_assign (v := (Vi 2)) rfl) rfl ?_
  refine s_nil (hK18 _ _ (genC [(0, (.pointer none)), (1, (Vi p)), (5, (Vp w.heap.size 0)), (6, (Vp w5.heap.size 0)), (8, (Vi 2))] ⟨g13, g14, g15, g16, rfl, trivial⟩ ?_))
  clear hK18; rintro E ⟨g23, g24, g25, g26, g27, -⟩
  refine seq fun K28 hK28 => ?_
  refine reg ?_
  refine s_y (y_move (v := (Vi 2)) g27) rfl ?_
  refine s_y (y_neq rfl rfl) rfl ?_
  refine s_nil (hK28 _ _ (genC [(0, (.pointer none)), (1, (Vi p)), (5, (Vp w.heap.size 0)), (6, (Vp w5.heap.size 0)), (8, (Vi 2)), (16, Vt)] ⟨g23, g24, g25, g26, g27, rfl, trivial⟩ ?_))
  clear hK28; rintro E ⟨g29, g30, g31, g32, g33, g34, -⟩
  refine cond_t g34 ?_
  refine seq fun K35 hK35 => ?_
  refine reg ?_
  refine s_y (y_build (vs := []) (v := (.agg zBc.toArray)) rfl (fun _ => by kernel_rfl)) rfl ?_
  refine s_y (y_move (v := (Vi 2)) g33) rfl ?_
  have hb36 := (hk21.get0 hb10)
  refine s_e0 (e_storeV (cs' := zBc.toArray) zBc g32 (v := (.agg zBc.toArray)) rfl rfl sz36 hb36 rfl rfl rfl) ?_
  rintro _ w37 ⟨hb38, hk39⟩
  have ka40 := (Kp.fresh ka22 hk39 fun _ e => nl (nl hk7.size (Nat.le_refl _)) (Nat.le_of_eq e.symm))
  refine s_y (y_assign (v := (Vi 2)) rfl) rfl ?_
  refine s_nil (hK35 _ _ (genC [(6, (Vp w5.heap.size 0)), (7, (Vi 2))] ⟨g32, rfl, trivial⟩ ?_))
  clear hK35; rintro E ⟨g41, g42, -⟩
  refine ret (hret _ _ [(bv (⟨0, 0, (⟨(⟨0, 0, 0, 0, 0, 0, 0, 0, 0, 0, 0, 0, 0, 0, 0, 0⟩ : V6), 0⟩ : T6), (⟨(⟨0, 0, 0, 0⟩ : V4), 0⟩ : T4), false, 0⟩ : Binding)), (Vi 2)] ⟨⟨_, g41, (rd_agg (vs := zBc) ag36 (On.now hb38) (by kernel_rfl) rfl)⟩, g42, trivial⟩ ?_)
  exact ⟨rfl, ka40⟩

theorem bind_nil {w : World} (p : Int) (t : T6) (u : T4)  : Rets Tryd.prog 19 #[(.pointer none), (.int .i64 p), (t6 t), (t4 u)] w fun v w' => v = (.tuple #[(bv zeroB), (.int .i64 2)]) ∧ K0 w w' := by
  refine enter Tryd.func19 rfl Tryd.ntmps19 rfl fun Q hret hend E hE => ?_
  have g1 : E 0 = (.pointer none) := hE 0
  have g2 : E 1 = (Vi p) := hE 1
  have g3 : E 2 = (t6 t) := hE 2
  have g4 : E 3 = (t4 u) := hE 3
  clear hE
  refine seq fun K5 hK5 => ?_
  refine reg ?_
  refine s_e (e_box (v := (t6 t)) g3) rfl ?_
  rintro _ w6 ⟨rfl, hb7, hk8⟩
  have ka9 : Kp (fun _ => False) w w6 := (Kp.then0 (Kp.refl _ _) hk8)
  refine s_e (e_box (v := (t4 u)) g4) rfl ?_
  rintro _ w10 ⟨rfl, hb11, hk12⟩
  have ka13 := (Kp.then0 ka9 hk12)
  refine s_e (e_alloc ze36) rfl ?_
  rintro _ w14 ⟨rfl, hb15, hk16⟩
  have ka17 := (Kp.then0 ka13 hk16)
  refine s_y (y_assign (v := (Vi 0)) rfl) rfl ?_
  refine s_nil (hK5 _ _ (genC [(0, (.pointer none)), (1, (Vi p)), (6, (Vp w.heap.size 0)), (7, (Vp w6.heap.size 0)), (8, (Vp w10.heap.size 0))] ⟨g1, g2, rfl, rfl, rfl, trivial⟩ ?_))
  clear hK5; rintro E ⟨g18, g19, g20, g21, g22, -⟩
  refine seq fun K23 hK23 => ?_
  refine seq fun K24 hK24 => ?_
  refine reg ?_
  refine s_y (y_move (v := (.pointer none)) g18) rfl ?_
  refine s_e (e_call ca49 (args := [(.pointer none)]) rfl (bnone_nil)) rfl ?_
  rintro _ w25 ⟨rfl, hk26⟩
  have ka27 := (Kp.then0 ka17 hk26)
  refine s_nil (hK24 _ _ (genC [(0, (.pointer none)), (1, (Vi p)), (6, (Vp w.heap.size 0)), (7, (Vp w6.heap.size 0)), (8, (Vp w10.heap.size 0)), (16, Vt)] ⟨g18, g19, g20, g21, g22, rfl, trivial⟩ ?_))
  clear hK24; rintro E ⟨g28, g29, g30, g31, g32, g33, -⟩
  refine cond_t g33 ?_
  refine seq fun K34 hK34 => ?_
  refine reg ?_
  refine s_y (y_build (vs := []) (v := (.agg zBc.toArray)) rfl (fun _ => by kernel_rfl)) rfl ?_
  have hb35 := (hk26.get0 hb15)
  refine s_e0 (e_storeV (cs' := zBc.toArray) zBc g32 (v := (.agg zBc.toArray)) rfl rfl sz36 hb35 rfl rfl rfl) ?_
  rintro _ w36 ⟨hb37, hk38⟩
  have ka39 := (Kp.fresh ka27 hk38 fun _ e => nl (nl (nl hk8.size hk12.size) (Nat.le_refl _)) (Nat.le_of_eq e.symm))
  refine s_y (y_assign (v := (Vi 2)) rfl) rfl ?_
  refine s_nil (hK34 _ _ (genC [(8, (Vp w10.heap.size 0)), (9, (Vi 2))] ⟨g32, rfl, trivial⟩ ?_))
  clear hK34; rintro E ⟨g40, g41, -⟩
  refine ret (hret _ _ [(bv (⟨0, 0, (⟨(⟨0, 0, 0, 0, 0, 0, 0, 0, 0, 0, 0, 0, 0, 0, 0, 0⟩ : V6), 0⟩ : T6), (⟨(⟨0, 0, 0, 0⟩ : V4), 0⟩ : T4), false, 0⟩ : Binding)), (Vi 2)] ⟨⟨_, g40, (rd_agg (vs := zBc) ag36 (On.now hb37) (by kernel_rfl) rfl)⟩, g41, trivial⟩ ?_)
  exact ⟨rfl, ka39⟩

theorem unbind_nil {w : World} (p : Int) (t : T6)  : Rets Tryd.prog 20 #[(.pointer none), (.int .i64 p), (t6 t)] w fun v w' => v = (.tuple #[(bv zeroB), (.int .i64 2)]) ∧ K0 w w' := by
  refine enter Tryd.func20 rfl Tryd.ntmps20 rfl fun Q hret hend E hE => ?_
  have g1 : E 0 = (.pointer none) := hE 0
  have g2 : E 1 = (Vi p) := hE 1
  have g3 : E 2 = (t6 t) := hE 2
  clear hE
  refine seq fun K4 hK4 => ?_
  refine reg ?_
  refine s_e (e_box (v := (t6 t)) g3) rfl ?_
  rintro _ w5 ⟨rfl, hb6, hk7⟩
  have ka8 : Kp (fun _ => False) w w5 := (Kp.then0 (Kp.refl _ _) hk7)
  refine s_e (e_alloc ze36) rfl ?_
  rintro _ w9 ⟨rfl, hb10, hk11⟩
  have ka12 := (Kp.then0 ka8 hk11)
  refine s_y (y_assign (v := (Vi 0)) rfl) rfl ?_
  refine s_nil (hK4 _ _ (genC [(0, (.pointer none)), (1, (Vi p)), (5, (Vp w.heap.size 0)), (6, (Vp w5.heap.size 0))] ⟨g1, g2, rfl, rfl, trivial⟩ ?_))
  clear hK4; rintro E ⟨g13, g14, g15, g16, -⟩
  refine seq fun K17 hK17 => ?_
  refine block ?_
  refine seq fun K18 hK18 => ?_
  refine reg ?_
  refine s_y (y_move (v := (.pointer none)) g13) rfl ?_
  refine s_e (e_call ca49 (args := [(.pointer none)]) rfl (bnone_nil)) rfl ?_
  rintro _ w19 ⟨rfl, hk20⟩
  have ka21 := (Kp.then0 ka12 hk20)
  refine s_y (y_assign (v := Vt) rfl) rfl ?_
  refine s_nil (hK18 _ _ (genC [(0, (.pointer none)), (1, (Vi p)), (5, (Vp w.heap.size 0)), (6, (Vp w5.heap.size 0)), (10, Vt)] ⟨g13, g14, g15, g16, rfl, trivial⟩ ?_))
  clear hK18; rintro E ⟨g22, g23, g24, g25, g26, -⟩
  refine cond_t g26 ?_
  refine seq fun K27 hK27 => ?_
  refine reg ?_
  refine s_y (y_build (vs := []) (v := (.agg zBc.toArray)) rfl (fun _ => by kernel_rfl)) rfl ?_
  have hb28 := (hk20.get0 hb10)
  refine s_e0 (e_storeV (cs' := zBc.toArray) zBc g25 (v := (.agg zBc.toArray)) rfl rfl sz36 hb28 rfl rfl rfl) ?_
  rintro _ w29 ⟨hb30, hk31⟩
  have ka32 := (Kp.fresh ka21 hk31 fun _ e => nl (nl hk7.size (Nat.le_refl _)) (Nat.le_of_eq e.symm))
  refine s_y (y_assign (v := (Vi 2)) rfl) rfl ?_
  refine s_nil (hK27 _ _ (genC [(6, (Vp w5.heap.size 0)), (7, (Vi 2))] ⟨g25, rfl, trivial⟩ ?_))
  clear hK27; rintro E ⟨g33, g34, -⟩
  refine ret (hret _ _ [(bv (⟨0, 0, (⟨(⟨0, 0, 0, 0, 0, 0, 0, 0, 0, 0, 0, 0, 0, 0, 0, 0⟩ : V6), 0⟩ : T6), (⟨(⟨0, 0, 0, 0⟩ : V4), 0⟩ : T4), false, 0⟩ : Binding)), (Vi 2)] ⟨⟨_, g33, (rd_agg (vs := zBc) ag36 (On.now hb30) (by kernel_rfl) rfl)⟩, g34, trivial⟩ ?_)
  exact ⟨rfl, ka32⟩

theorem hold_nil {w : World} (n : Int)  : Rets Tryd.prog 16 #[(.pointer none), (.int .i64 n)] w fun v w' => v = (.int .i64 2) ∧ K0 w w' := by
  refine enter Tryd.func16 rfl Tryd.ntmps16 rfl fun Q hret hend E hE => ?_
  have g1 : E 0 = (.pointer none) := hE 0
  have g2 : E 1 = (Vi n) := hE 1
  clear hE
  refine seq fun K3 hK3 => ?_
  refine reg ?_
  refine s_y (y_assign (v := (Vi 0)) rfl) rfl ?_
  refine s_nil (hK3 _ _ (genC [(0, (.pointer none)), (1, (Vi n))] ⟨g1, g2, trivial⟩ ?_))
  clear hK3; rintro E ⟨g4, g5, -⟩
  refine seq fun K6 hK6 => ?_
  refine seq fun K7 hK7 => ?_
  refine reg ?_
  refine s_y (y_move (v := (.pointer none)) g4) rfl ?_
  refine s_e (e_call ca49 (args := [(.pointer none)]) rfl (bnone_nil)) rfl ?_
  rintro _ w8 ⟨rfl, hk9⟩
  have ka10 : Kp (fun _ => False) w w8 := (Kp.then0 (Kp.refl _ _) hk9)
  refine s_nil (hK7 _ _ (genC [(0, (.pointer none)), (1, (Vi n)), (8, Vt)] ⟨g4, g5, rfl, trivial⟩ ?_))
  clear hK7; rintro E ⟨g11, g12, g13, -⟩
  refine cond_t g13 ?_
  refine seq fun K14 hK14 => ?_
  refine reg ?_
  refine s_y (y_assign (v := (Vi 2)) rfl) rfl ?_
  refine s_nil (hK14 _ _ (genC [(4, (Vi 2))] ⟨rfl, trivial⟩ ?_))
  clear hK14; rintro E ⟨g15, -⟩
  refine ret (hret _ _ [(Vi 2)] ⟨g15, trivial⟩ ?_)
  exact ⟨rfl, ka10⟩

theorem drop_nil {w : World} (n : Int)  : Rets Tryd.prog 17 #[(.pointer none), (.int .i64 n)] w fun v w' => v = (.tuple #[(.bool false), (.int .i64 2)]) ∧ K0 w w' := by
  refine enter Tryd.func17 rfl Tryd.ntmps17 rfl fun Q hret hend E hE => ?_
  have g1 : E 0 = (.pointer none) := hE 0
  have g2 : E 1 = (Vi n) := hE 1
  clear hE
  refine seq fun K3 hK3 => ?_
  refine reg ?_
  refine s_y (y_assign (v := Vf) rfl) rfl ?_
  refine s_y (y_assign (v := (Vi 0)) rfl) rfl ?_
  refine s_nil (hK3 _ _ (genC [(0, (.pointer none)), (1, (Vi n))] ⟨g1, g2, trivial⟩ ?_))
  clear hK3; rintro E ⟨g4, g5, -⟩
  refine seq fun K6 hK6 => ?_
  refine seq fun K7 hK7 => ?_
  refine reg ?_
  refine s_y (y_move (v := (.pointer none)) g4) rfl ?_
  refine s_e (e_call ca49 (args := [(.pointer none)]) rfl (bnone_nil)) rfl ?_
  rintro _ w8 ⟨rfl, hk9⟩
  have ka10 : Kp (fun _ => False) w w8 := (Kp.then0 (Kp.refl _ _) hk9)
  refine s_nil (hK7 _ _ (genC [(0, (.pointer none)), (1, (Vi n)), (9, Vt)] ⟨g4, g5, rfl, trivial⟩ ?_))
  clear hK7; rintro E ⟨g11, g12, g13, -⟩
  refine cond_t g13 ?_
  refine seq fun K14 hK14 => ?_
  refine reg ?_
  refine s_y (y_assign (v := Vf) rfl) rfl ?_
  refine s_y (y_assign (v := (Vi 2)) rfl) rfl ?_
  refine s_nil (hK14 _ _ (genC [(4, Vf), (5, (Vi 2))] ⟨rfl, rfl, trivial⟩ ?_))
  clear hK14; rintro E ⟨g15, g16, -⟩
  refine ret (hret _ _ [Vf, (Vi 2)] ⟨g15, g16, trivial⟩ ?_)
  exact ⟨rfl, ka10⟩

theorem room_nil {w : World} (p : Int) (t : T6)  : Rets Tryd.prog 40 #[(.pointer none), (.int .i64 p), (t6 t)] w fun v w' => v = (.int .i64 2) ∧ K0 w w' := by
  refine enter Tryd.func40 rfl Tryd.ntmps40 rfl fun Q hret hend E hE => ?_
  have g1 : E 0 = (.pointer none) := hE 0
  have g2 : E 1 = (Vi p) := hE 1
  have g3 : E 2 = (t6 t) := hE 2
  clear hE
  refine seq fun K4 hK4 => ?_
  refine reg ?_
  refine s_e (e_box (v := (t6 t)) g3) rfl ?_
  rintro _ w5 ⟨rfl, hb6, hk7⟩
  have ka8 : Kp (fun _ => False) w w5 := (Kp.then0 (Kp.refl _ _) hk7)
  refine s_y (y_assign (v := (Vi 0)) rfl) rfl ?_
  refine s_nil (hK4 _ _ (genC [(0, (.pointer none)), (1, (Vi p)), (5, (Vp w.heap.size 0))] ⟨g1, g2, rfl, trivial⟩ ?_))
  clear hK4; rintro E ⟨g9, g10, g11, -⟩
  refine seq fun K12 hK12 => ?_
  refine seq fun K13 hK13 => ?_
  refine reg ?_
  refine s_y (y_move (v := (.pointer none)) g9) rfl ?_
  refine s_y (y_move (v := (Vi p)) g10) rfl ?_
  refine s_y (y_load (v := (t6 t)) g11 (rd_agg (vs := t.cs) ag32 (On.now hb6) (by kernel_rfl) rfl)) rfl ?_
  refine s_e (e_call ca46 (args := [(.pointer none), (Vi p), (t6 t)]) rfl (may_nil _ t)) rfl ?_
  rintro _ w14 ⟨rfl, hk15⟩
  have ka16 := (Kp.then0 ka8 hk15)
  refine s_y (y_assign (v := (Vi 2)) rfl) rfl ?_
  refine s_nil (hK13 _ _ (genC [(0, (.pointer none)), (1, (Vi p)), (5, (Vp w.heap.size 0)), (7, (Vi 2))] ⟨g9, g10, g11, rfl, trivial⟩ ?_))
  clear hK13; rintro E ⟨g17, g18, g19, g20, -⟩
  refine seq fun K21 hK21 => ?_
  refine reg ?_
  refine s_y (y_move (v := (Vi 2)) g20) rfl ?_
  refine s_y (y_neq rfl rfl) rfl ?_
  refine s_nil (hK21 _ _ (genC [(0, (.pointer none)), (1, (Vi p)), (5, (Vp w.heap.size 0)), (7, (Vi 2)), (15, Vt)] ⟨g17, g18, g19, g20, rfl, trivial⟩ ?_))
  clear hK21; rintro E ⟨g22, g23, g24, g25, g26, -⟩
  refine cond_t g26 ?_
  refine seq fun K27 hK27 => ?_
  refine reg ?_
  refine s_y (y_move (v := (Vi 2)) g25) rfl ?_
  refine s_y (y_assign (v := (Vi 2)) rfl) rfl ?_
  refine s_nil (hK27 _ _ (genC [(6, (Vi 2))] ⟨rfl, trivial⟩ ?_))
  clear hK27; rintro E ⟨g28, -⟩
  refine ret (hret _ _ [(Vi 2)] ⟨g28, trivial⟩ ?_)
  exact ⟨rfl, ka16⟩

theorem all_nil {w : World}  : Rets Tryd.prog 39 #[(.pointer none)] w fun v w' => v = (.slice none 0 0) ∧ K0 w w' := by
  refine enter Tryd.func39 rfl Tryd.ntmps39 rfl fun Q hret hend E hE => ?_
  have g1 : E 0 = (.pointer none) := hE 0
  clear hE
  refine seq fun K2 hK2 => ?_
  refine reg ?_
  refine s_y (y_assign (v := (.slice none 0 0)) rfl) rfl ?_
  refine s_nil (hK2 _ _ (genC [(0, (.pointer none))] ⟨g1, trivial⟩ ?_))
  clear hK2; rintro E ⟨g3, -⟩
  refine seq fun K4 hK4 => ?_
  refine seq fun K5 hK5 => ?_
  refine reg ?_
  refine s_y (y_move (v := (.pointer none)) g3) rfl ?_
  refine s_e (e_call ca49 (args := [(.pointer none)]) rfl (bnone_nil)) rfl ?_
  rintro _ w6 ⟨rfl, hk7⟩
  have ka8 : Kp (fun _ => False) w w6 := (Kp.then0 (Kp.refl _ _) hk7)
  refine s_nil (hK5 _ _ (genC [(0, (.pointer none)), (7, Vt)] ⟨g3, rfl, trivial⟩ ?_))
  clear hK5; rintro E ⟨g9, g10, -⟩
  refine cond_t g10 ?_
  refine seq fun K11 hK11 => ?_
  refine reg ?_
  refine s_y (y_assign (v := (.slice none 0 0)) rfl) rfl ?_
  refine s_nil (hK11 _ _ (genC [(2, (.slice none 0 0))] ⟨rfl, trivial⟩ ?_))
  clear hK11; rintro E ⟨g12, -⟩
  refine ret (hret _ _ [(.slice none 0 0)] ⟨g12, trivial⟩ ?_)
  exact ⟨rfl, ka8⟩

theorem len_nil {w : World}  : Rets Tryd.prog 18 #[(.pointer none)] w fun v w' => v = (.int .i64 0) ∧ K0 w w' := by
  refine enter Tryd.func18 rfl Tryd.ntmps18 rfl fun Q hret hend E hE => ?_
  have g1 : E 0 = (.pointer none) := hE 0
  clear hE
  refine seq fun K2 hK2 => ?_
  refine reg ?_
  refine s_y (y_assign (v := (Vi 0)) rfl) rfl ?_
  refine s_nil (hK2 _ _ (genC [(0, (.pointer none))] ⟨g1, trivial⟩ ?_))
  clear hK2; rintro E ⟨g3, -⟩
  refine seq fun K4 hK4 => ?_
  refine seq fun K5 hK5 => ?_
  refine reg ?_
  refine s_y (y_move (v := (.pointer none)) g3) rfl ?_
  refine s_e (e_call ca49 (args := [(.pointer none)]) rfl (bnone_nil)) rfl ?_
  rintro _ w6 ⟨rfl, hk7⟩
  have ka8 : Kp (fun _ => False) w w6 := (Kp.then0 (Kp.refl _ _) hk7)
  refine s_nil (hK5 _ _ (genC [(0, (.pointer none)), (4, Vt)] ⟨g3, rfl, trivial⟩ ?_))
  clear hK5; rintro E ⟨g9, g10, -⟩
  refine cond_t g10 ?_
  refine seq fun K11 hK11 => ?_
  refine reg ?_
  refine s_y (y_assign (v := (Vi 0)) rfl) rfl ?_
  refine s_nil (hK11 _ _ (genC [(2, (Vi 0))] ⟨rfl, trivial⟩ ?_))
  clear hK11; rintro E ⟨g12, -⟩
  refine ret (hret _ _ [(Vi 0)] ⟨g12, trivial⟩ ?_)
  exact ⟨rfl, ka8⟩

theorem free_nil {w : World} (n : Int)  : Rets Tryd.prog 21 #[(.pointer none), (.int .i64 n)] w fun v w' => v = (.int .i64 0) ∧ K0 w w' := by
  refine enter Tryd.func21 rfl Tryd.ntmps21 rfl fun Q hret hend E hE => ?_
  have g1 : E 0 = (.pointer none) := hE 0
  have g2 : E 1 = (Vi n) := hE 1
  clear hE
  refine seq fun K3 hK3 => ?_
  refine reg ?_
  refine s_y (y_assign (v := (Vi 0)) rfl) rfl ?_
  refine s_nil (hK3 _ _ (genC [(0, (.pointer none)), (1, (Vi n))] ⟨g1, g2, trivial⟩ ?_))
  clear hK3; rintro E ⟨g4, g5, -⟩
  refine seq fun K6 hK6 => ?_
  refine seq fun K7 hK7 => ?_
  refine reg ?_
  refine s_y (y_move (v := (.pointer none)) g4) rfl ?_
  refine s_e (e_call ca49 (args := [(.pointer none)]) rfl (bnone_nil)) rfl ?_
  rintro _ w8 ⟨rfl, hk9⟩
  have ka10 : Kp (fun _ => False) w w8 := (Kp.then0 (Kp.refl _ _) hk9)
  refine s_y (y_move (v := Vt) rfl) rfl ?_
  refine s_no (.no rfl (c := true) rfl rfl) rfl ?_
  refine s_no (.no rfl (c := true) rfl rfl) rfl ?_
  refine s_no (.no rfl (c := true) rfl rfl) rfl ?_
  refine s_y (y_pick_t rfl (v := Vt) rfl) rfl ?_
  refine s_nil (hK7 _ _ (genC [(0, (.pointer none)), (1, (Vi n)), (11, Vt)] ⟨g4, g5, rfl, trivial⟩ ?_))
  clear hK7; rintro E ⟨g11, g12, g13, -⟩
  refine cond_t g13 ?_
  refine seq fun K14 hK14 => ?_
  refine reg ?_
  refine s_y (y_assign (v := (Vi 0)) rfl) rfl ?_
  refine s_nil (hK14 _ _ (genC [(4, (Vi 0))] ⟨rfl, trivial⟩ ?_))
  clear hK14; rintro E ⟨g15, -⟩
  refine ret (hret _ _ [(Vi 0)] ⟨g15, trivial⟩ ?_)
  exact ⟨rfl, ka10⟩

theorem bibNobody_spec (p q n : Int) {w : World} (hT : Tb w) : Rets Tryd.prog 11 #[(.int .i64 p), (.int .i64 q), (.int .i64 n)] w fun v w' => v = .bool true ∧ K0 w w' := by
  refine enter Tryd.func11 rfl Tryd.ntmps11 rfl fun Q hret hend E hE => ?_
  have g1 : E 0 = (Vi p) := hE 0
  have g2 : E 1 = (Vi q) := hE 1
  have g3 : E 2 = (Vi n) := hE 2
  clear hE
  refine seq fun K4 hK4 => ?_
  refine reg ?_
  refine s_y (y_assign (v := Vf) rfl) rfl ?_
  refine s_nil (hK4 _ _ (genC [(0, (Vi p)), (1, (Vi q)), (2, (Vi n))] ⟨g1, g2, g3, trivial⟩ ?_))
  clear hK4; rintro E ⟨g5, g6, g7, -⟩
  refine seq fun K8 hK8 => ?_
  refine reg ?_
  refine s_y (y_assign (v := (.pointer none)) rfl) rfl ?_
  refine s_nil (hK8 _ _ (genC [(0, (Vi p)), (1, (Vi q)), (2, (Vi n)), (7, (.pointer none))] ⟨g5, g6, g7, rfl, trivial⟩ ?_))
  clear hK8; rintro E ⟨g9, g10, g11, g12, -⟩
  refine seq fun K13 hK13 => ?_
  refine reg ?_
  refine s_y (y_move (v := (.pointer none)) g12) rfl ?_
  refine s_y (y_move (v := (Vi p)) g9) rfl ?_
  refine s_y (y_move (v := (Vi q)) g10) rfl ?_
  refine s_e (e_call ca14 (args := [(.int .u8 1), (Vi q)]) rfl (inT_spec 1 q _)) rfl ?_
  rintro _ w14 ⟨rfl, hk15⟩
  have ka16 : Kp (fun _ => False) w w14 := (Kp.then0 (Kp.refl _ _) hk15)
  refine s_e (e_call ca43 (args := [(.pointer none), (Vi p), (t6 (inT 1 q))]) rfl (in_nil _ (⟨((inT 1 q).addr), (inT 1 q).port⟩ : T6))) rfl ?_
  rintro _ w17 ⟨rfl, hk18⟩
  have ka19 := (Kp.then0 ka16 hk18)
  refine s_y (y_move (v := (.tuple #[(bv zeroB), Vf])) rfl) rfl ?_
  refine s_y (y_ext rfl (v := (bv zeroB)) rfl) rfl ?_
  refine s_y (y_ext rfl (v := Vf) rfl) rfl ?_
  refine s_e (e_alloc ze36) rfl ?_
  rintro _ w20 ⟨rfl, hb21, hk22⟩
  have ka23 := (Kp.then0 ka19 hk22)
  refine s_e0 (e_storeV (cs' := zeroB.cs.toArray) zeroB.cs rfl (v := (bv zeroB)) rfl rfl sz36 hb21 rfl rfl rfl) ?_
  rintro _ w24 ⟨hb25, hk26⟩
  have ka27 := (Kp.fresh ka23 hk26 fun _ e => nl (nl (nl hk15.size hk18.size) (Nat.le_refl _)) (Nat.le_of_eq e.symm))
  refine s_y (y_assign (v := Vf) rfl) rfl ?_
  refine s_nil (hK13 _ _ (genC [(0, (Vi p)), (1, (Vi q)), (2, (Vi n)), (7, (.pointer none)), (9, Vf)] ⟨g9, g10, g11, g12, rfl, trivial⟩ ?_))
  clear hK13; rintro E ⟨g28, g29, g30, g31, g32, -⟩
  refine seq fun K33 hK33 => ?_
  refine reg ?_
  refine s_y (y_move (v := (.pointer none)) g31) rfl ?_
  refine s_y (y_move (v := (Vi p)) g28) rfl ?_
  refine s_y (y_move (v := (Vi q)) g29) rfl ?_
  refine s_e (e_call ca15 (args := [(.int .u8 1), (Vi q)]) rfl (outT_spec 1 q _)) rfl ?_
  rintro _ w34 ⟨rfl, hk35⟩
  have ka36 := (Kp.then0 ka27 hk35)
  refine s_e (e_call ca41 (args := [(.pointer none), (Vi p), (t4 (outT 1 q))]) rfl (out_nil _ (⟨((outT 1 q).addr), (outT 1 q).port⟩ : T4))) rfl ?_
  rintro _ w37 ⟨rfl, hk38⟩
  have ka39 := (Kp.then0 ka36 hk38)
  refine s_y (y_move (v := (.tuple #[(bv zeroB), Vf])) rfl) rfl ?_
  refine s_y (y_ext rfl (v := (bv zeroB)) rfl) rfl ?_
  refine s_y (y_ext rfl (v := Vf) rfl) rfl ?_
  refine s_e (e_alloc ze36) rfl ?_
  rintro _ w40 ⟨rfl, hb41, hk42⟩
  have ka43 := (Kp.then0 ka39 hk42)
  refine s_e0 (e_storeV (cs' := zeroB.cs.toArray) zeroB.cs rfl (v := (bv zeroB)) rfl rfl sz36 hb41 rfl rfl rfl) ?_
  rintro _ w44 ⟨hb45, hk46⟩
  have hz48 := (nl (nl (nl (nl (nl hk15.size hk18.size) hk22.size) hk26.size) hk35.size) hk38.size)
  have ka47 := (Kp.fresh ka43 hk46 fun _ e => nl (nl hz48 (Nat.le_refl _)) (Nat.le_of_eq e.symm))
  refine s_y (y_assign (v := Vf) rfl) rfl ?_
  refine s_nil (hK33 _ _ (genC [(0, (Vi p)), (1, (Vi q)), (2, (Vi n)), (7, (.pointer none)), (9, Vf), (11, Vf)] ⟨g28, g29, g30, g31, g32, rfl, trivial⟩ ?_))
  clear hK33; rintro E ⟨g49, g50, g51, g52, g53, g54, -⟩
  refine seq fun K55 hK55 => ?_
  refine reg ?_
  refine s_y (y_move (v := (.pointer none)) g52) rfl ?_
  refine s_y (y_move (v := (Vi n)) g51) rfl ?_
  refine s_e (e_call ca24 (args := [(.pointer none), (Vi n)]) rfl (id_nil _)) rfl ?_
  rintro _ w56 ⟨rfl, hk57⟩
  have ka58 := (Kp.then0 ka47 hk57)
  refine s_y (y_move (v := (.tuple #[(bv zeroB), Vf])) rfl) rfl ?_
  refine s_y (y_ext rfl (v := (bv zeroB)) rfl) rfl ?_
  refine s_y (y_ext rfl (v := Vf) rfl) rfl ?_
  refine s_e (e_alloc ze36) rfl ?_
  rintro _ w59 ⟨rfl, hb60, hk61⟩
  have ka62 := (Kp.then0 ka58 hk61)
  refine s_e0 (e_storeV (cs' := zeroB.cs.toArray) zeroB.cs rfl (v := (bv zeroB)) rfl rfl sz36 hb60 rfl rfl rfl) ?_
  rintro _ w63 ⟨hb64, hk65⟩
  have hz67 := (nl (nl (nl hz48 hk42.size) hk46.size) hk57.size)
  have ka66 := (Kp.fresh ka62 hk65 fun _ e => nl (nl hz67 (Nat.le_refl _)) (Nat.le_of_eq e.symm))
  refine s_y (y_assign (v := Vf) rfl) rfl ?_
  refine s_nil (hK55 _ _ (genC [(0, (Vi p)), (1, (Vi q)), (2, (Vi n)), (7, (.pointer none)), (9, Vf), (11, Vf), (13, Vf)] ⟨g49, g50, g51, g52, g53, g54, rfl, trivial⟩ ?_))
  clear hK55; rintro E ⟨g68, g69, g70, g71, g72, g73, g74, -⟩
  refine seq fun K75 hK75 => ?_
  refine reg ?_
  refine s_y (y_move (v := (.pointer none)) g71) rfl ?_
  refine s_y (y_move (v := (Vi p)) g68) rfl ?_
  refine s_y (y_move (v := (Vi q)) g69) rfl ?_
  refine s_e (e_call ca14 (args := [(.int .u8 1), (Vi q)]) rfl (inT_spec 1 q _)) rfl ?_
  rintro _ w76 ⟨rfl, hk77⟩
  have ka78 := (Kp.then0 ka66 hk77)
  refine s_e (e_call ca13 (args := [(.pointer none), (Vi p), (t6 (inT 1 q))]) rfl (add_nil _ (⟨((inT 1 q).addr), (inT 1 q).port⟩ : T6))) rfl ?_
  rintro _ w79 ⟨rfl, hk80⟩
  have ka81 := (Kp.then0 ka78 hk80)
  refine s_y (y_move (v := (.tuple #[(bv zeroB), (Vi 2)])) rfl) rfl ?_
  refine s_y (y_ext rfl (v := (bv zeroB)) rfl) rfl ?_
  refine s_y (y_ext rfl (v := (Vi 2)) rfl) rfl ?_
  refine s_e (e_alloc ze36) rfl ?_
  rintro _ w82 ⟨rfl, hb83, hk84⟩
  have ka85 := (Kp.then0 ka81 hk84)
  refine s_e0 (e_storeV (cs' := zeroB.cs.toArray) zeroB.cs rfl (v := (bv zeroB)) rfl rfl sz36 hb83 rfl rfl rfl) ?_
  rintro _ w86 ⟨hb87, hk88⟩
  have hz90 := (nl (nl (nl (nl hz67 hk61.size) hk65.size) hk77.size) hk80.size)
  have ka89 := (Kp.fresh ka85 hk88 fun _ e => nl (nl hz90 (Nat.le_refl _)) (Nat.le_of_eq e.symm))
  refine s_y (y_assign (v := (Vi 2)) rfl) rfl ?_
  refine s_nil (hK75 _ _ (genC [(0, (Vi p)), (1, (Vi q)), (2, (Vi n)), (7, (.pointer none)), (9, Vf), (11, Vf), (13, Vf), (15, (Vi 2))] ⟨g68, g69, g70, g71, g72, g73, g74, rfl, trivial⟩ ?_))
  clear hK75; rintro E ⟨g91, g92, g93, g94, g95, g96, g97, g98, -⟩
  refine seq fun K99 hK99 => ?_
  refine reg ?_
  refine s_y (y_move (v := (.pointer none)) g94) rfl ?_
  refine s_y (y_move (v := (Vi p)) g91) rfl ?_
  refine s_y (y_move (v := (Vi q)) g92) rfl ?_
  refine s_e (e_call ca14 (args := [(.int .u8 1), (Vi q)]) rfl (inT_spec 1 q _)) rfl ?_
  rintro _ w100 ⟨rfl, hk101⟩
  have ka102 := (Kp.then0 ka89 hk101)
  refine s_y (y_move (v := (Vi q)) g92) rfl ?_
  refine s_e (e_call ca15 (args := [(.int .u8 1), (Vi q)]) rfl (outT_spec 1 q _)) rfl ?_
  rintro _ w103 ⟨rfl, hk104⟩
  have ka105 := (Kp.then0 ka102 hk104)
  refine s_e (e_call ca19 (args := [(.pointer none), (Vi p), (t6 (inT 1 q)), (t4 (outT 1 q))]) rfl (bind_nil _ (⟨((inT 1 q).addr), (inT 1 q).port⟩ : T6) (⟨((outT 1 q).addr), (outT 1 q).port⟩ : T4))) rfl ?_
  rintro _ w106 ⟨rfl, hk107⟩
  have ka108 := (Kp.then0 ka105 hk107)
  refine s_y (y_move (v := (.tuple #[(bv zeroB), (Vi 2)])) rfl) rfl ?_
  refine s_y (y_ext rfl (v := (bv zeroB)) rfl) rfl ?_
  refine s_y (y_ext rfl (v := (Vi 2)) rfl) rfl ?_
  refine s_e (e_alloc ze36) rfl ?_
  rintro _ w109 ⟨rfl, hb110, hk111⟩
  have ka112 := (Kp.then0 ka108 hk111)
  refine s_e0 (e_storeV (cs' := zeroB.cs.toArray) zeroB.cs rfl (v := (bv zeroB)) rfl rfl sz36 hb110 rfl rfl rfl) ?_
  rintro _ w113 ⟨hb114, hk115⟩
  have hz117 := (nl (nl (nl (nl (nl hz90 hk84.size) hk88.size) hk101.size) hk104.size) hk107.size)
  have ka116 := (Kp.fresh ka112 hk115 fun _ e => nl (nl hz117 (Nat.le_refl _)) (Nat.le_of_eq e.symm))
  refine s_y (y_assign (v := (Vi 2)) rfl) rfl ?_
  refine s_nil (hK99 _ _ (genC [(0, (Vi p)), (1, (Vi q)), (2, (Vi n)), (7, (.pointer none)), (9, Vf), (11, Vf), (13, Vf), (15, (Vi 2)), (17, (Vi 2))] ⟨g91, g92, g93, g94, g95, g96, g97, g98, rfl, trivial⟩ ?_))
  clear hK99; rintro E ⟨g118, g119, g120, g121, g122, g123, g124, g125, g126, -⟩
  refine seq fun K127 hK127 => ?_
  refine reg ?_
  refine s_y (y_move (v := (.pointer none)) g121) rfl ?_
  refine s_y (y_move (v := (Vi p)) g118) rfl ?_
  refine s_y (y_move (v := (Vi q)) g119) rfl ?_
  refine s_e (e_call ca14 (args := [(.int .u8 1), (Vi q)]) rfl (inT_spec 1 q _)) rfl ?_
  rintro _ w128 ⟨rfl, hk129⟩
  have ka130 := (Kp.then0 ka116 hk129)
  refine s_e (e_call ca20 (args := [(.pointer none), (Vi p), (t6 (inT 1 q))]) rfl (unbind_nil _ (⟨((inT 1 q).addr), (inT 1 q).port⟩ : T6))) rfl ?_
  rintro _ w131 ⟨rfl, hk132⟩
  have ka133 := (Kp.then0 ka130 hk132)
  refine s_y (y_move (v := (.tuple #[(bv zeroB), (Vi 2)])) rfl) rfl ?_
  refine s_y (y_ext rfl (v := (bv zeroB)) rfl) rfl ?_
  refine s_y (y_ext rfl (v := (Vi 2)) rfl) rfl ?_
  refine s_e (e_alloc ze36) rfl ?_
  rintro _ w134 ⟨rfl, hb135, hk136⟩
  have ka137 := (Kp.then0 ka133 hk136)
  refine s_e0 (e_storeV (cs' := zeroB.cs.toArray) zeroB.cs rfl (v := (bv zeroB)) rfl rfl sz36 hb135 rfl rfl rfl) ?_
  rintro _ w138 ⟨hb139, hk140⟩
  have hz142 := (nl (nl (nl (nl hz117 hk111.size) hk115.size) hk129.size) hk132.size)
  have ka141 := (Kp.fresh ka137 hk140 fun _ e => nl (nl hz142 (Nat.le_refl _)) (Nat.le_of_eq e.symm))
  refine s_y (y_assign (v := (Vi 2)) rfl) rfl ?_
  refine s_nil (hK127 _ _ (genC [(0, (Vi p)), (1, (Vi q)), (2, (Vi n)), (7, (.pointer none)), (9, Vf), (11, Vf), (13, Vf), (15, (Vi 2)), (17, (Vi 2)), (19, (Vi 2))] ⟨g118, g119, g120, g121, g122, g123, g124, g125, g126, rfl, trivial⟩ ?_))
  clear hK127; rintro E ⟨g143, g144, g145, g146, g147, g148, g149, g150, g151, g152, -⟩
  refine seq fun K153 hK153 => ?_
  refine reg ?_
  refine s_y (y_move (v := (.pointer none)) g146) rfl ?_
  refine s_y (y_move (v := (Vi n)) g145) rfl ?_
  refine s_e (e_call ca17 (args := [(.pointer none), (Vi n)]) rfl (drop_nil _)) rfl ?_
  rintro _ w154 ⟨rfl, hk155⟩
  have ka156 := (Kp.then0 ka141 hk155)
  refine s_y (y_move (v := (.tuple #[Vf, (Vi 2)])) rfl) rfl ?_
  refine s_y (y_ext rfl (v := Vf) rfl) rfl ?_
  refine s_y (y_ext rfl (v := (Vi 2)) rfl) rfl ?_
  refine s_y (y_assign (v := Vf) rfl) rfl ?_
  refine s_y (y_assign (v := (Vi 2)) rfl) rfl ?_
  refine s_nil (hK153 _ _ (genC [(0, (Vi p)), (1, (Vi q)), (2, (Vi n)), (7, (.pointer none)), (9, Vf), (11, Vf), (13, Vf), (15, (Vi 2)), (17, (Vi 2)), (19, (Vi 2)), (21, (Vi 2))] ⟨g143, g144, g145, g146, g147, g148, g149, g150, g151, g152, rfl, trivial⟩ ?_))
  clear hK153; rintro E ⟨g157, g158, g159, g160, g161, g162, g163, g164, g165, g166, g167, -⟩
  refine seq fun K168 hK168 => ?_
  refine reg ?_
  refine s_y (y_move (v := Vf) g161) rfl ?_
  refine s_y (y_not rfl) rfl ?_
  refine s_y (y_move (v := Vt) rfl) rfl ?_
  refine s_gy (.yes rfl rfl) (y_move (v := Vf) g162) rfl ?_
  refine s_gy (.yes rfl rfl) (y_not rfl) rfl ?_
  refine s_y (y_pick_t rfl (v := Vt) rfl) rfl ?_
  refine s_y (y_move (v := Vt) rfl) rfl ?_
  refine s_gy (.yes rfl rfl) (y_move (v := Vf) g163) rfl ?_
  refine s_gy (.yes rfl rfl) (y_not rfl) rfl ?_
  refine s_y (y_pick_t rfl (v := Vt) rfl) rfl ?_
  refine s_y (y_move (v := Vt) rfl) rfl ?_
  refine s_gy (.yes rfl rfl) (y_move (v := (Vi 2)) g164) rfl ?_
  refine s_gy (.yes rfl rfl) (y_eql rfl rfl) rfl ?_
  refine s_y (y_pick_t rfl (v := Vt) rfl) rfl ?_
  refine s_y (y_move (v := Vt) rfl) rfl ?_
  refine s_gy (.yes rfl rfl) (y_move (v := (Vi 2)) g165) rfl ?_
  refine s_gy (.yes rfl rfl) (y_eql rfl rfl) rfl ?_
  refine s_y (y_pick_t rfl (v := Vt) rfl) rfl ?_
  refine s_y (y_move (v := Vt) rfl) rfl ?_
  refine s_gy (.yes rfl rfl) (y_move (v := (Vi 2)) g166) rfl ?_
  refine s_gy (.yes rfl rfl) (y_eql rfl rfl) rfl ?_
  refine s_y (y_pick_t rfl (v := Vt) rfl) rfl ?_
  refine s_y (y_move (v := Vt) rfl) rfl ?_
  refine s_gy (.yes rfl rfl) (y_move (v := (Vi 2)) g167) rfl ?_
  refine s_gy (.yes rfl rfl) (y_eql rfl rfl) rfl ?_
  refine s_y (y_pick_t rfl (v := Vt) rfl) rfl ?_
  refine s_y (y_move (v := Vt) rfl) rfl ?_
  refine s_gy (.yes rfl rfl) (y_move (v := (.pointer none)) g160) rfl ?_
  refine s_gy (.yes rfl rfl) (y_move (v := (Vi n)) g159) rfl ?_
  refine s_ge (.yes rfl rfl) (e_call ca16 (args := [(.pointer none), (Vi n)]) rfl (hold_nil _)) rfl ?_
  rintro _ w169 ⟨rfl, hk170⟩
  have ka171 := (Kp.then0 ka156 hk170)
  refine s_gy (.yes rfl rfl) (y_eql rfl rfl) rfl ?_
  refine s_y (y_pick_t rfl (v := Vt) rfl) rfl ?_
  refine s_y (y_move (v := Vt) rfl) rfl ?_
  refine s_gy (.yes rfl rfl) (y_move (v := (.pointer none)) g160) rfl ?_
  refine s_gy (.yes rfl rfl) (y_move (v := (Vi p)) g157) rfl ?_
  refine s_gy (.yes rfl rfl) (y_move (v := (Vi q)) g158) rfl ?_
  refine s_ge (.yes rfl rfl) (e_call ca14 (args := [(.int .u8 1), (Vi q)]) rfl (inT_spec 1 q _)) rfl ?_
  rintro _ w172 ⟨rfl, hk173⟩
  have ka174 := (Kp.then0 ka171 hk173)
  refine s_ge (.yes rfl rfl) (e_call ca40 (args := [(.pointer none), (Vi p), (t6 (inT 1 q))]) rfl (room_nil _ (⟨((inT 1 q).addr), (inT 1 q).port⟩ : T6))) rfl ?_
  rintro _ w175 ⟨rfl, hk176⟩
  have ka177 := (Kp.then0 ka174 hk176)
  refine s_gy (.yes rfl rfl) (y_eql rfl rfl) rfl ?_
  refine s_y (y_pick_t rfl (v := Vt) rfl) rfl ?_
  refine s_y (y_move (v := Vt) rfl) rfl ?_
  refine s_gy (.yes rfl rfl) (y_move (v := (.pointer none)) g160) rfl ?_
  refine s_ge (.yes rfl rfl) (e_call ca39 (args := [(.pointer none)]) rfl (all_nil)) rfl ?_
  rintro _ w178 ⟨rfl, hk179⟩
  have ka180 := (Kp.then0 ka177 hk179)
  refine s_gy (.yes rfl rfl) (y_lenS so78 rfl) rfl ?_
  refine s_gy (.yes rfl rfl) (y_eql rfl rfl) rfl ?_
  refine s_y (y_pick_t rfl (v := (.bool (decide ((((0 : Nat) : Int) : Int) = 0)))) rfl) rfl ?_
  refine s_y (y_move (v := (.bool (decide ((((0 : Nat) : Int) : Int) = 0)))) rfl) rfl ?_
  by_cases c181 : (((0 : Nat) : Int) : Int) = 0
  · refine s_gy (.yes rfl (congrArg Value.bool (decide_eq_true c181))) (y_move (v := (.pointer none)) g160) rfl ?_
    refine s_ge (.yes rfl (congrArg Value.bool (decide_eq_true c181))) (e_call ca18 (args := [(.pointer none)]) rfl (len_nil)) rfl ?_
    rintro _ w182 ⟨rfl, hk183⟩
    have ka184 := (Kp.then0 ka180 hk183)
    refine s_gy (.yes rfl (congrArg Value.bool (decide_eq_true c181))) (y_eql rfl rfl) rfl ?_
    refine s_y (y_pick_t (congrArg Value.bool (decide_eq_true c181)) (v := Vt) rfl) rfl ?_
    refine s_y (y_move (v := Vt) rfl) rfl ?_
    refine s_gy (.yes rfl rfl) (y_move (v := (.pointer none)) g160) rfl ?_
    refine s_gy (.yes rfl rfl) (y_move (v := (Vi p)) g157) rfl ?_
    refine s_ge (.yes rfl rfl) (e_call ca21 (args := [(.pointer none), (Vi p)]) rfl (free_nil _)) rfl ?_
    rintro _ w185 ⟨rfl, hk186⟩
    have ka187 := (Kp.then0 ka184 hk186)
    refine s_gy (.yes rfl rfl) (y_eql rfl rfl) rfl ?_
    refine s_y (y_pick_t rfl (v := Vt) rfl) rfl ?_
    refine s_y (y_move (v := Vt) rfl) rfl ?_
    have hf188 := (((((((((((((((((((((((((((((((hT.kp hk15 id).kp hk18 id).kp hk22 id).kp hk26 (Nat.ne_of_lt (nt (nt (hT.lt) (nl hk15.size hk18.size)) (Nat.le_refl _)))).kp hk35 id).kp hk38 id).kp hk42 id).kp hk46 (Nat.ne_of_lt (nt (nt (hT.lt) hz48) (Nat.le_refl _)))).kp hk57 id).kp hk61 id).kp hk65 (Nat.ne_of_lt (nt (nt (hT.lt) hz67) (Nat.le_refl _)))).kp hk77 id).kp hk80 id).kp hk84 id).kp hk88 (Nat.ne_of_lt (nt (nt (hT.lt) hz90) (Nat.le_refl _)))).kp hk101 id).kp hk104 id).kp hk107 id).kp hk111 id).kp hk115 (Nat.ne_of_lt (nt (nt (hT.lt) hz117) (Nat.le_refl _)))).kp hk129 id).kp hk132 id).kp hk136 id).kp hk140 (Nat.ne_of_lt (nt (nt (hT.lt) hz142) (Nat.le_refl _)))).kp hk155 id).kp hk170 id).kp hk173 id).kp hk176 id).kp hk179 id).kp hk183 id).kp hk186 id)
    refine s_ge (.yes rfl rfl) (e_call ca22 (args := []) rfl (wakes_spec hf188)) rfl ?_
    rintro _ w189 ⟨rfl, hk190⟩
    have ka191 := (Kp.then0 ka187 hk190)
    refine s_y (y_pick_t rfl (v := Vt) rfl) rfl ?_
    refine s_y (y_assign (v := Vt) rfl) rfl ?_
    refine s_nil (hK168 _ _ (genC [(6, Vt)] ⟨rfl, trivial⟩ ?_))
    clear hK168; rintro E ⟨g192, -⟩
    refine ret (hret _ _ [Vt] ⟨g192, trivial⟩ ?_)
    exact ⟨rfl, ka191⟩
  · exact absurd rfl c181

end Go.Proofs.YtdcnblafepgheaaDoor
