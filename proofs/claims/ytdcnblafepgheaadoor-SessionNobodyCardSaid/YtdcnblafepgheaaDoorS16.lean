/-
  Written by a program (wip/walks).
-/
import Derived.Test.YtdcnblafepgheaaDoorS15
namespace Go.Proofs.YtdcnblafepgheaaDoor
open Go Go.V
set_option maxRecDepth 100000
theorem snone_nil {w : World}  : Rets Tryd.prog 61 #[(.pointer none)] w fun v w' => v = (.bool true) ∧ K0 w w' := by
  refine enter Tryd.func61 rfl Tryd.ntmps61 rfl fun Q hret hend E hE => ?_
  have g1 : E 0 = (.pointer none) := hE 0
  clear hE
  refine seq fun K2 hK2 => ?_
  refine reg ?_
  refine s_y (y_assign (v := Vf) rfl) rfl ?_
  refine s_nil (hK2 _ _ (genC [(0, (.pointer none))] ⟨g1, trivial⟩ ?_))
  clear hK2; rintro E ⟨g3, -⟩
  refine seq fun K4 hK4 => ?_
  refine reg ?_
  refine s_y (y_move (v := (.pointer none)) g3) rfl ?_
  refine s_y (y_peq0 Tryd.underlying53 rfl rfl) rfl ?_
  refine s_y (y_move (v := Vt) rfl) rfl ?_
  refine s_no (.no rfl (c := true) rfl rfl) rfl ?_
  refine s_no (.no rfl (c := true) rfl rfl) rfl ?_
  refine s_no (.no rfl (c := true) rfl rfl) rfl ?_
  refine s_no (.no rfl (c := true) rfl rfl) rfl ?_
  refine s_no (.no rfl (c := true) rfl rfl) rfl ?_
  refine s_y (y_pick_t rfl (v := Vt) rfl) rfl ?_
  refine s_y (y_assign (v := Vt) rfl) rfl ?_
  refine s_nil (hK4 _ _ (genC [(2, Vt)] ⟨rfl, trivial⟩ ?_))
  clear hK4; rintro E ⟨g5, -⟩
  refine ret (hret _ _ [Vt] ⟨g5, trivial⟩ ?_)
  exact ⟨rfl, (Kp.refl _ _)⟩

theorem sfind_nil {w : World} (b : Int) (t : T4)  : Rets Tryd.prog 35 #[(.pointer none), (.int .i64 b), (t4 t)] w fun v w' => v = (.tuple #[(sv zeroS), (.bool false)]) ∧ K0 w w' := by
  refine enter Tryd.func35 rfl Tryd.ntmps35 rfl fun Q hret hend E hE => ?_
  have g1 : E 0 = (.pointer none) := hE 0
  have g2 : E 1 = (Vi b) := hE 1
  have g3 : E 2 = (t4 t) := hE 2
  clear hE
  refine seq fun K4 hK4 => ?_
  refine reg ?_
  refine s_e (e_box (v := (t4 t)) g3) rfl ?_
  rintro _ w5 ⟨rfl, hb6, hk7⟩
  have ka8 : Kp (fun _ => False) w w5 := (Kp.then0 (Kp.refl _ _) hk7)
  refine s_e (e_alloc ze59) rfl ?_
  rintro _ w9 ⟨rfl, hb10, hk11⟩
  have ka12 := (Kp.then0 ka8 hk11)
  refine s_y (y_assign (v := Vf) rfl) rfl ?_
  refine s_nil (hK4 _ _ (genC [(0, (.pointer none)), (1, (Vi b)), (5, (Vp w.heap.size 0)), (6, (Vp w5.heap.size 0))] ⟨g1, g2, rfl, rfl, trivial⟩ ?_))
  clear hK4; rintro E ⟨g13, g14, g15, g16, -⟩
  refine seq fun K17 hK17 => ?_
  refine seq fun K18 hK18 => ?_
  refine reg ?_
  refine s_y (y_move (v := (.pointer none)) g13) rfl ?_
  refine s_e (e_call ca61 (args := [(.pointer none)]) rfl (snone_nil)) rfl ?_
  rintro _ w19 ⟨rfl, hk20⟩
  have ka21 := (Kp.then0 ka12 hk20)
  refine s_nil (hK18 _ _ (genC [(0, (.pointer none)), (1, (Vi b)), (5, (Vp w.heap.size 0)), (6, (Vp w5.heap.size 0)), (11, Vt)] ⟨g13, g14, g15, g16, rfl, trivial⟩ ?_))
  clear hK18; rintro E ⟨g22, g23, g24, g25, g26, -⟩
  refine cond_t g26 ?_
  refine seq fun K27 hK27 => ?_
  refine reg ?_
  refine s_y (y_build (vs := []) (v := (.agg #[.int .i64 0, .int .i64 0, U0, U0, U0, U0, .int .i64 0, .int .i64 0, .int .i64 0])) rfl (fun _ => by kernel_rfl)) rfl ?_
  have hb28 := (hk20.get0 hb10)
  refine s_e0 (e_storeV (cs' := #[(Vi 0), (Vi 0), U0, U0, U0, U0, (Vi 0), (Vi 0), (Vi 0)]) [(Vi 0), (Vi 0), U0, U0, U0, U0, (Vi 0), (Vi 0), (Vi 0)] g25 (v := (.agg #[.int .i64 0, .int .i64 0, U0, U0, U0, U0, .int .i64 0, .int .i64 0, .int .i64 0])) rfl rfl sz59 hb28 rfl rfl rfl) ?_
  rintro _ w29 ⟨hb30, hk31⟩
  have ka32 := (Kp.fresh ka21 hk31 fun _ e => nl (nl hk7.size (Nat.le_refl _)) (Nat.le_of_eq e.symm))
  refine s_y (y_assign (v := Vf) rfl) rfl ?_
  refine s_nil (hK27 _ _ (genC [(6, (Vp w5.heap.size 0)), (7, Vf)] ⟨g25, rfl, trivial⟩ ?_))
  clear hK27; rintro E ⟨g33, g34, -⟩
  refine ret (hret _ _ [(sv (⟨0, 0, (⟨(⟨0, 0, 0, 0⟩ : V4), 0⟩ : T4), 0, 0⟩ : Session)), Vf] ⟨⟨_, g33, (rd_agg (vs := [(Vi 0), (Vi 0), U0, U0, U0, U0, (Vi 0), (Vi 0), (Vi 0)]) ag59 (On.now hb30) (by kernel_rfl) rfl)⟩, g34, trivial⟩ ?_)
  exact ⟨rfl, ka32⟩

theorem sroom_nil {w : World} (b : Int) (t : T4)  : Rets Tryd.prog 36 #[(.pointer none), (.int .i64 b), (t4 t)] w fun v w' => v = (.int .i64 2) ∧ K0 w w' := by
  refine enter Tryd.func36 rfl Tryd.ntmps36 rfl fun Q hret hend E hE => ?_
  have g1 : E 0 = (.pointer none) := hE 0
  have g2 : E 1 = (Vi b) := hE 1
  have g3 : E 2 = (t4 t) := hE 2
  clear hE
  refine seq fun K4 hK4 => ?_
  refine reg ?_
  refine s_e (e_box (v := (t4 t)) g3) rfl ?_
  rintro _ w5 ⟨rfl, hb6, hk7⟩
  have ka8 : Kp (fun _ => False) w w5 := (Kp.then0 (Kp.refl _ _) hk7)
  refine s_y (y_assign (v := (Vi 0)) rfl) rfl ?_
  refine s_nil (hK4 _ _ (genC [(0, (.pointer none)), (1, (Vi b)), (5, (Vp w.heap.size 0))] ⟨g1, g2, rfl, trivial⟩ ?_))
  clear hK4; rintro E ⟨g9, g10, g11, -⟩
  refine seq fun K12 hK12 => ?_
  refine seq fun K13 hK13 => ?_
  refine reg ?_
  refine s_y (y_move (v := (.pointer none)) g9) rfl ?_
  refine s_e (e_call ca61 (args := [(.pointer none)]) rfl (snone_nil)) rfl ?_
  rintro _ w14 ⟨rfl, hk15⟩
  have ka16 := (Kp.then0 ka8 hk15)
  refine s_nil (hK13 _ _ (genC [(0, (.pointer none)), (1, (Vi b)), (5, (Vp w.heap.size 0)), (10, Vt)] ⟨g9, g10, g11, rfl, trivial⟩ ?_))
  clear hK13; rintro E ⟨g17, g18, g19, g20, -⟩
  refine cond_t g20 ?_
  refine seq fun K21 hK21 => ?_
  refine reg ?_
  refine s_y (y_assign (v := (Vi 2)) rfl) rfl ?_
  refine s_nil (hK21 _ _ (genC [(6, (Vi 2))] ⟨rfl, trivial⟩ ?_))
  clear hK21; rintro E ⟨g22, -⟩
  refine ret (hret _ _ [(Vi 2)] ⟨g22, trivial⟩ ?_)
  exact ⟨rfl, ka16⟩

theorem sadd_nil {w : World} (b : Int) (t : T4) (s d : Int)  : Rets Tryd.prog 27 #[(.pointer none), (.int .i64 b), (t4 t), (.int .i64 s), (.int .i64 d)] w fun v w' => v = (.tuple #[(sv zeroS), (.int .i64 2)]) ∧ K0 w w' := by
  refine enter Tryd.func27 rfl Tryd.ntmps27 rfl fun Q hret hend E hE => ?_
  have g1 : E 0 = (.pointer none) := hE 0
  have g2 : E 1 = (Vi b) := hE 1
  have g3 : E 2 = (t4 t) := hE 2
  have g4 : E 3 = (Vi s) := hE 3
  have g5 : E 4 = (Vi d) := hE 4
  clear hE
  refine seq fun K6 hK6 => ?_
  refine reg ?_
  refine s_e (e_box (v := (t4 t)) g3) rfl ?_
  rintro _ w7 ⟨rfl, hb8, hk9⟩
  have ka10 : Kp (fun _ => False) w w7 := (Kp.then0 (Kp.refl _ _) hk9)
  refine s_e (e_alloc ze59) rfl ?_
  rintro _ w11 ⟨rfl, hb12, hk13⟩
  have ka14 := (Kp.then0 ka10 hk13)
  refine s_y (y_assign (v := (Vi 0)) rfl) rfl ?_
  refine s_nil (hK6 _ _ (genC [(0, (.pointer none)), (1, (Vi b)), (3, (Vi s)), (4, (Vi d)), (7, (Vp w.heap.size 0)), (10, (Vp w7.heap.size 0))] ⟨g1, g2, g4, g5, rfl, rfl, trivial⟩ ?_))
  clear hK6; rintro E ⟨g15, g16, g17, g18, g19, g20, -⟩
  refine seq fun K21 hK21 => ?_
  refine seq fun K22 hK22 => ?_
  refine reg ?_
  refine s_y (y_move (v := (.pointer none)) g15) rfl ?_
  refine s_e (e_call ca61 (args := [(.pointer none)]) rfl (snone_nil)) rfl ?_
  rintro _ w23 ⟨rfl, hk24⟩
  have ka25 := (Kp.then0 ka14 hk24)
  refine s_y (y_not rfl) rfl ?_
  refine s_y (y_move (v := Vf) rfl) rfl ?_
  refine s_no (.no rfl (c := false) rfl rfl) rfl ?_
  refine s_no (.no rfl (c := false) rfl rfl) rfl ?_
  refine s_no (.no rfl (c := false) rfl rfl) rfl ?_
  refine s_no (.off rfl rfl) rfl ?_
  refine s_no (.off rfl rfl) rfl ?_
  refine s_no (.no rfl (c := false) rfl rfl) rfl ?_
  refine s_y (y_pick_f rfl (v := Vf) rfl) rfl ?_
  refine s_nil (hK22 _ _ (genC [(0, (.pointer none)), (1, (Vi b)), (3, (Vi s)), (4, (Vi d)), (7, (Vp w.heap.size 0)), (10, (Vp w7.heap.size 0)), (24, Vf)] ⟨g15, g16, g17, g18, g19, g20, rfl, trivial⟩ ?_))
  clear hK22; rintro E ⟨g26, g27, g28, g29, g30, g31, g32, -⟩
  refine cond_f g32 ?_
  refine skip (hK21 _ _ (genC [(0, (.pointer none)), (1, (Vi b)), (3, (Vi s)), (4, (Vi d)), (7, (Vp w.heap.size 0)), (10, (Vp w7.heap.size 0))] ⟨g26, g27, g28, g29, g30, g31, trivial⟩ ?_))
  clear hK21; rintro E ⟨g33, g34, g35, g36, g37, g38, -⟩
  refine seq fun K39 hK39 => ?_
  refine seq fun K40 hK40 => ?_
  refine reg ?_
  refine s_y (y_move (v := (.pointer none)) g33) rfl ?_
  refine s_y (y_move (v := (Vi b)) g34) rfl ?_
  have hb41 := (hk24.get0 (hk13.get0 hb8))
  refine s_y (y_load (v := (t4 t)) g37 (rd_agg (vs := t.cs) ag34 (On.now hb41) (by kernel_rfl) rfl)) rfl ?_
  refine s_e (e_call ca36 (args := [(.pointer none), (Vi b), (t4 t)]) rfl (sroom_nil _ t)) rfl ?_
  rintro _ w42 ⟨rfl, hk43⟩
  have ka44 := (Kp.then0 ka25 hk43)
  refine s_y (y_assign (v := (Vi 2)) rfl) rfl ?_
  refine s_nil (hK40 _ _ (genC [(0, (.pointer none)), (1, (Vi b)), (3, (Vi s)), (4, (Vi d)), (7, (Vp w.heap.size 0)), (10, (Vp w7.heap.size 0)), (12, (Vi 2))] ⟨g33, g34, g35, g36, g37, g38, rfl, trivial⟩ ?_))
  clear hK40; rintro E ⟨g45, g46, g47, g48, g49, g50, g51, -⟩
  refine seq fun K52 hK52 => ?_
  refine reg ?_
  refine s_y (y_move (v := (Vi 2)) g51) rfl ?_
  refine s_y (y_neq rfl rfl) rfl ?_
  refine s_nil (hK52 _ _ (genC [(0, (.pointer none)), (1, (Vi b)), (3, (Vi s)), (4, (Vi d)), (7, (Vp w.heap.size 0)), (10, (Vp w7.heap.size 0)), (12, (Vi 2)), (31, Vt)] ⟨g45, g46, g47, g48, g49, g50, g51, rfl, trivial⟩ ?_))
  clear hK52; rintro E ⟨g53, g54, g55, g56, g57, g58, g59, g60, -⟩
  refine cond_t g60 ?_
  refine seq fun K61 hK61 => ?_
  refine reg ?_
  refine s_y (y_build (vs := []) (v := (.agg #[.int .i64 0, .int .i64 0, U0, U0, U0, U0, .int .i64 0, .int .i64 0, .int .i64 0])) rfl (fun _ => by kernel_rfl)) rfl ?_
  refine s_y (y_move (v := (Vi 2)) g59) rfl ?_
  have hb62 := (hk43.get0 (hk24.get0 hb12))
  refine s_e0 (e_storeV (cs' := #[(Vi 0), (Vi 0), U0, U0, U0, U0, (Vi 0), (Vi 0), (Vi 0)]) [(Vi 0), (Vi 0), U0, U0, U0, U0, (Vi 0), (Vi 0), (Vi 0)] g58 (v := (.agg #[.int .i64 0, .int .i64 0, U0, U0, U0, U0, .int .i64 0, .int .i64 0, .int .i64 0])) rfl rfl sz59 hb62 rfl rfl rfl) ?_
  rintro _ w63 ⟨hb64, hk65⟩
  have ka66 := (Kp.fresh ka44 hk65 fun _ e => nl (nl hk9.size (Nat.le_refl _)) (Nat.le_of_eq e.symm))
  refine s_y (y_assign (v := (Vi 2)) rfl) rfl ?_
  refine s_nil (hK61 _ _ (genC [(10, (Vp w7.heap.size 0)), (11, (Vi 2))] ⟨g58, rfl, trivial⟩ ?_))
  clear hK61; rintro E ⟨g67, g68, -⟩
  refine ret (hret _ _ [(sv (⟨0, 0, (⟨(⟨0, 0, 0, 0⟩ : V4), 0⟩ : T4), 0, 0⟩ : Session)), (Vi 2)] ⟨⟨_, g67, (rd_agg (vs := [(Vi 0), (Vi 0), U0, U0, U0, U0, (Vi 0), (Vi 0), (Vi 0)]) ag59 (On.now hb64) (by kernel_rfl) rfl)⟩, g68, trivial⟩ ?_)
  exact ⟨rfl, ka66⟩

theorem sset_nil {w : World} (n s d : Int)  : Rets Tryd.prog 34 #[(.pointer none), (.int .i64 n), (.int .i64 s), (.int .i64 d)] w fun v w' => v = (.int .i64 2) ∧ K0 w w' := by
  refine enter Tryd.func34 rfl Tryd.ntmps34 rfl fun Q hret hend E hE => ?_
  have g1 : E 0 = (.pointer none) := hE 0
  have g2 : E 1 = (Vi n) := hE 1
  have g3 : E 2 = (Vi s) := hE 2
  have g4 : E 3 = (Vi d) := hE 3
  clear hE
  refine seq fun K5 hK5 => ?_
  refine reg ?_
  refine s_y (y_assign (v := (Vi 0)) rfl) rfl ?_
  refine s_nil (hK5 _ _ (genC [(0, (.pointer none)), (1, (Vi n)), (2, (Vi s)), (3, (Vi d))] ⟨g1, g2, g3, g4, trivial⟩ ?_))
  clear hK5; rintro E ⟨g6, g7, g8, g9, -⟩
  refine seq fun K10 hK10 => ?_
  refine block ?_
  refine seq fun K11 hK11 => ?_
  refine reg ?_
  refine s_y (y_move (v := (.pointer none)) g6) rfl ?_
  refine s_e (e_call ca61 (args := [(.pointer none)]) rfl (snone_nil)) rfl ?_
  rintro _ w12 ⟨rfl, hk13⟩
  have ka14 : Kp (fun _ => False) w w12 := (Kp.then0 (Kp.refl _ _) hk13)
  refine s_y (y_assign (v := Vt) rfl) rfl ?_
  refine s_nil (hK11 _ _ (genC [(0, (.pointer none)), (1, (Vi n)), (2, (Vi s)), (3, (Vi d)), (11, Vt)] ⟨g6, g7, g8, g9, rfl, trivial⟩ ?_))
  clear hK11; rintro E ⟨g15, g16, g17, g18, g19, -⟩
  refine cond_t g19 ?_
  refine seq fun K20 hK20 => ?_
  refine reg ?_
  refine s_y (y_assign (v := (Vi 2)) rfl) rfl ?_
  refine s_nil (hK20 _ _ (genC [(8, (Vi 2))] ⟨rfl, trivial⟩ ?_))
  clear hK20; rintro E ⟨g21, -⟩
  refine ret (hret _ _ [(Vi 2)] ⟨g21, trivial⟩ ?_)
  exact ⟨rfl, ka14⟩

theorem sdrop_nil {w : World} (n : Int)  : Rets Tryd.prog 29 #[(.pointer none), (.int .i64 n)] w fun v w' => v = (.tuple #[(sv zeroS), (.int .i64 2)]) ∧ K0 w w' := by
  refine enter Tryd.func29 rfl Tryd.ntmps29 rfl fun Q hret hend E hE => ?_
  have g1 : E 0 = (.pointer none) := hE 0
  have g2 : E 1 = (Vi n) := hE 1
  clear hE
  refine seq fun K3 hK3 => ?_
  refine reg ?_
  refine s_e (e_alloc ze59) rfl ?_
  rintro _ w4 ⟨rfl, hb5, hk6⟩
  have ka7 : Kp (fun _ => False) w w4 := (Kp.then0 (Kp.refl _ _) hk6)
  refine s_y (y_assign (v := (Vi 0)) rfl) rfl ?_
  refine s_nil (hK3 _ _ (genC [(0, (.pointer none)), (1, (Vi n)), (4, (Vp w.heap.size 0))] ⟨g1, g2, rfl, trivial⟩ ?_))
  clear hK3; rintro E ⟨g8, g9, g10, -⟩
  refine seq fun K11 hK11 => ?_
  refine seq fun K12 hK12 => ?_
  refine reg ?_
  refine s_y (y_move (v := (.pointer none)) g8) rfl ?_
  refine s_e (e_call ca61 (args := [(.pointer none)]) rfl (snone_nil)) rfl ?_
  rintro _ w13 ⟨rfl, hk14⟩
  have ka15 := (Kp.then0 ka7 hk14)
  refine s_nil (hK12 _ _ (genC [(0, (.pointer none)), (1, (Vi n)), (4, (Vp w.heap.size 0)), (9, Vt)] ⟨g8, g9, g10, rfl, trivial⟩ ?_))
  clear hK12; rintro E ⟨g16, g17, g18, g19, -⟩
  refine cond_t g19 ?_
  refine seq fun K20 hK20 => ?_
  refine reg ?_
  refine s_y (y_build (vs := []) (v := (.agg #[.int .i64 0, .int .i64 0, U0, U0, U0, U0, .int .i64 0, .int .i64 0, .int .i64 0])) rfl (fun _ => by kernel_rfl)) rfl ?_
  have hb21 := (hk14.get0 hb5)
  refine s_e0 (e_storeV (cs' := #[(Vi 0), (Vi 0), U0, U0, U0, U0, (Vi 0), (Vi 0), (Vi 0)]) [(Vi 0), (Vi 0), U0, U0, U0, U0, (Vi 0), (Vi 0), (Vi 0)] g18 (v := (.agg #[.int .i64 0, .int .i64 0, U0, U0, U0, U0, .int .i64 0, .int .i64 0, .int .i64 0])) rfl rfl sz59 hb21 rfl rfl rfl) ?_
  rintro _ w22 ⟨hb23, hk24⟩
  have ka25 := (Kp.fresh ka15 hk24 fun _ e => nl (nl (Nat.le_refl _) (Nat.le_refl _)) (Nat.le_of_eq e.symm))
  refine s_y (y_assign (v := (Vi 2)) rfl) rfl ?_
  refine s_nil (hK20 _ _ (genC [(4, (Vp w.heap.size 0)), (5, (Vi 2))] ⟨g18, rfl, trivial⟩ ?_))
  clear hK20; rintro E ⟨g26, g27, -⟩
  refine ret (hret _ _ [(sv (⟨0, 0, (⟨(⟨0, 0, 0, 0⟩ : V4), 0⟩ : T4), 0, 0⟩ : Session)), (Vi 2)] ⟨⟨_, g26, (rd_agg (vs := [(Vi 0), (Vi 0), U0, U0, U0, U0, (Vi 0), (Vi 0), (Vi 0)]) ag59 (On.now hb23) (by kernel_rfl) rfl)⟩, g27, trivial⟩ ?_)
  exact ⟨rfl, ka25⟩

theorem spop_nil {w : World} (n : Int)  : Rets Tryd.prog 30 #[(.pointer none), (.int .i64 n)] w fun v w' => v = (.slice none 0 0) ∧ K0 w w' := by
  refine enter Tryd.func30 rfl Tryd.ntmps30 rfl fun Q hret hend E hE => ?_
  have g1 : E 0 = (.pointer none) := hE 0
  have g2 : E 1 = (Vi n) := hE 1
  clear hE
  refine seq fun K3 hK3 => ?_
  refine reg ?_
  refine s_y (y_assign (v := (.slice none 0 0)) rfl) rfl ?_
  refine s_nil (hK3 _ _ (genC [(0, (.pointer none)), (1, (Vi n))] ⟨g1, g2, trivial⟩ ?_))
  clear hK3; rintro E ⟨g4, g5, -⟩
  refine seq fun K6 hK6 => ?_
  refine reg ?_
  refine s_y (y_assign (v := (.slice none 0 0)) rfl) rfl ?_
  refine s_nil (hK6 _ _ (genC [(0, (.pointer none)), (1, (Vi n)), (5, (.slice none 0 0))] ⟨g4, g5, rfl, trivial⟩ ?_))
  clear hK6; rintro E ⟨g7, g8, g9, -⟩
  refine seq fun K10 hK10 => ?_
  refine seq fun K11 hK11 => ?_
  refine reg ?_
  refine s_y (y_move (v := (.pointer none)) g7) rfl ?_
  refine s_e (e_call ca61 (args := [(.pointer none)]) rfl (snone_nil)) rfl ?_
  rintro _ w12 ⟨rfl, hk13⟩
  have ka14 : Kp (fun _ => False) w w12 := (Kp.then0 (Kp.refl _ _) hk13)
  refine s_nil (hK11 _ _ (genC [(0, (.pointer none)), (1, (Vi n)), (5, (.slice none 0 0)), (12, Vt)] ⟨g7, g8, g9, rfl, trivial⟩ ?_))
  clear hK11; rintro E ⟨g15, g16, g17, g18, -⟩
  refine cond_t g18 ?_
  refine seq fun K19 hK19 => ?_
  refine reg ?_
  refine s_y (y_assign (v := (.slice none 0 0)) rfl) rfl ?_
  refine s_nil (hK19 _ _ (genC [(4, (.slice none 0 0))] ⟨rfl, trivial⟩ ?_))
  clear hK19; rintro E ⟨g20, -⟩
  refine ret (hret _ _ [(.slice none 0 0)] ⟨g20, trivial⟩ ?_)
  exact ⟨rfl, ka14⟩

theorem sof_nil {w : World} (b : Int)  : Rets Tryd.prog 31 #[(.pointer none), (.int .i64 b)] w fun v w' => v = (.slice none 0 0) ∧ K0 w w' := by
  refine enter Tryd.func31 rfl Tryd.ntmps31 rfl fun Q hret hend E hE => ?_
  have g1 : E 0 = (.pointer none) := hE 0
  have g2 : E 1 = (Vi b) := hE 1
  clear hE
  refine seq fun K3 hK3 => ?_
  refine reg ?_
  refine s_y (y_assign (v := (.slice none 0 0)) rfl) rfl ?_
  refine s_nil (hK3 _ _ (genC [(0, (.pointer none)), (1, (Vi b))] ⟨g1, g2, trivial⟩ ?_))
  clear hK3; rintro E ⟨g4, g5, -⟩
  refine seq fun K6 hK6 => ?_
  refine seq fun K7 hK7 => ?_
  refine reg ?_
  refine s_y (y_move (v := (.pointer none)) g4) rfl ?_
  refine s_e (e_call ca61 (args := [(.pointer none)]) rfl (snone_nil)) rfl ?_
  rintro _ w8 ⟨rfl, hk9⟩
  have ka10 : Kp (fun _ => False) w w8 := (Kp.then0 (Kp.refl _ _) hk9)
  refine s_nil (hK7 _ _ (genC [(0, (.pointer none)), (1, (Vi b)), (6, Vt)] ⟨g4, g5, rfl, trivial⟩ ?_))
  clear hK7; rintro E ⟨g11, g12, g13, -⟩
  refine cond_t g13 ?_
  refine seq fun K14 hK14 => ?_
  refine reg ?_
  refine s_y (y_assign (v := (.slice none 0 0)) rfl) rfl ?_
  refine s_nil (hK14 _ _ (genC [(4, (.slice none 0 0))] ⟨rfl, trivial⟩ ?_))
  clear hK14; rintro E ⟨g15, -⟩
  refine ret (hret _ _ [(.slice none 0 0)] ⟨g15, trivial⟩ ?_)
  exact ⟨rfl, ka10⟩

theorem sall_nil {w : World}  : Rets Tryd.prog 37 #[(.pointer none)] w fun v w' => v = (.slice none 0 0) ∧ K0 w w' := by
  refine enter Tryd.func37 rfl Tryd.ntmps37 rfl fun Q hret hend E hE => ?_
  have g1 : E 0 = (.pointer none) := hE 0
  clear hE
  refine seq fun K2 hK2 => ?_
  refine reg ?_
  refine s_y (y_assign (v := (.slice none 0 0)) rfl) rfl ?_
  refine s_nil (hK2 _ _ (genC [(0, (.pointer none))] ⟨g1, trivial⟩ ?_))
  clear hK2; rintro E ⟨g3, -⟩
  refine seq fun K4 hK4 => ?_
  refine seq fun K5 hK5 => ?_
  refine reg ?_
  refine s_y (y_move (v := (.pointer none)) g3) rfl ?_
  refine s_e (e_call ca61 (args := [(.pointer none)]) rfl (snone_nil)) rfl ?_
  rintro _ w6 ⟨rfl, hk7⟩
  have ka8 : Kp (fun _ => False) w w6 := (Kp.then0 (Kp.refl _ _) hk7)
  refine s_nil (hK5 _ _ (genC [(0, (.pointer none)), (4, Vt)] ⟨g3, rfl, trivial⟩ ?_))
  clear hK5; rintro E ⟨g9, g10, -⟩
  refine cond_t g10 ?_
  refine seq fun K11 hK11 => ?_
  refine reg ?_
  refine s_y (y_assign (v := (.slice none 0 0)) rfl) rfl ?_
  refine s_nil (hK11 _ _ (genC [(2, (.slice none 0 0))] ⟨rfl, trivial⟩ ?_))
  clear hK11; rintro E ⟨g12, -⟩
  refine ret (hret _ _ [(.slice none 0 0)] ⟨g12, trivial⟩ ?_)
  exact ⟨rfl, ka8⟩

theorem slen_nil {w : World}  : Rets Tryd.prog 33 #[(.pointer none)] w fun v w' => v = (.int .i64 0) ∧ K0 w w' := by
  refine enter Tryd.func33 rfl Tryd.ntmps33 rfl fun Q hret hend E hE => ?_
  have g1 : E 0 = (.pointer none) := hE 0
  clear hE
  refine seq fun K2 hK2 => ?_
  refine reg ?_
  refine s_y (y_assign (v := (Vi 0)) rfl) rfl ?_
  refine s_nil (hK2 _ _ (genC [(0, (.pointer none))] ⟨g1, trivial⟩ ?_))
  clear hK2; rintro E ⟨g3, -⟩
  refine seq fun K4 hK4 => ?_
  refine seq fun K5 hK5 => ?_
  refine reg ?_
  refine s_y (y_move (v := (.pointer none)) g3) rfl ?_
  refine s_e (e_call ca61 (args := [(.pointer none)]) rfl (snone_nil)) rfl ?_
  rintro _ w6 ⟨rfl, hk7⟩
  have ka8 : Kp (fun _ => False) w w6 := (Kp.then0 (Kp.refl _ _) hk7)
  refine s_nil (hK5 _ _ (genC [(0, (.pointer none)), (4, Vt)] ⟨g3, rfl, trivial⟩ ?_))
  clear hK5; rintro E ⟨g9, g10, -⟩
  refine cond_t g10 ?_
  refine seq fun K11 hK11 => ?_
  refine reg ?_
  refine s_y (y_assign (v := (Vi 0)) rfl) rfl ?_
  refine s_nil (hK11 _ _ (genC [(2, (Vi 0))] ⟨rfl, trivial⟩ ?_))
  clear hK11; rintro E ⟨g12, -⟩
  refine ret (hret _ _ [(Vi 0)] ⟨g12, trivial⟩ ?_)
  exact ⟨rfl, ka8⟩

theorem sknows_nil {w : World} (b : Int) (a : V4)  : Rets Tryd.prog 32 #[(.pointer none), (.int .i64 b), (v4 a)] w fun v w' => v = (.bool false) ∧ K0 w w' := by
  refine enter Tryd.func32 rfl Tryd.ntmps32 rfl fun Q hret hend E hE => ?_
  have g1 : E 0 = (.pointer none) := hE 0
  have g2 : E 1 = (Vi b) := hE 1
  have g3 : E 2 = (v4 a) := hE 2
  clear hE
  refine seq fun K4 hK4 => ?_
  refine reg ?_
  refine s_e (e_box (v := (v4 a)) g3) rfl ?_
  rintro _ w5 ⟨rfl, hb6, hk7⟩
  have ka8 : Kp (fun _ => False) w w5 := (Kp.then0 (Kp.refl _ _) hk7)
  refine s_y (y_assign (v := Vf) rfl) rfl ?_
  refine s_nil (hK4 _ _ (genC [(0, (.pointer none)), (1, (Vi b)), (5, (Vp w.heap.size 0))] ⟨g1, g2, rfl, trivial⟩ ?_))
  clear hK4; rintro E ⟨g9, g10, g11, -⟩
  refine seq fun K12 hK12 => ?_
  refine reg ?_
  refine s_y (y_move (v := (.pointer none)) g9) rfl ?_
  refine s_y (y_move (v := (Vi b)) g10) rfl ?_
  refine s_e (e_call ca31 (args := [(.pointer none), (Vi b)]) rfl (sof_nil _)) rfl ?_
  rintro _ w13 ⟨rfl, hk14⟩
  have ka15 := (Kp.then0 ka8 hk14)
  refine s_y (y_makeFunc (f := []) (c := [(Vp w.heap.size 0)]) rfl (lpc g11 rfl)) rfl ?_
  have hb16 := (hk14.get0 hb6)
  refine s_e (e_call ca71 (args := [(.slice none 0 0), (.func (.func 72) #[] #[(Vp w.heap.size 0)])]) rfl (cfn_nil a hb16)) rfl ?_
  rintro _ w17 ⟨rfl, hk18⟩
  have ka19 := (Kp.then0 ka15 hk18)
  refine s_y (y_assign (v := Vf) rfl) rfl ?_
  refine s_nil (hK12 _ _ (genC [(6, Vf)] ⟨rfl, trivial⟩ ?_))
  clear hK12; rintro E ⟨g20, -⟩
  refine ret (hret _ _ [Vf] ⟨g20, trivial⟩ ?_)
  exact ⟨rfl, ka19⟩

theorem sessionNobody_spec (b p d : Int) {w : World} (hT : Tb w) : Rets Tryd.prog 7 #[(.int .i64 b), (.int .i64 p), (.int .i64 d)] w fun v w' => v = .bool true ∧ K0 w w' := by
  refine enter Tryd.func7 rfl Tryd.ntmps7 rfl fun Q hret hend E hE => ?_
  have g1 : E 0 = (Vi b) := hE 0
  have g2 : E 1 = (Vi p) := hE 1
  have g3 : E 2 = (Vi d) := hE 2
  clear hE
  refine seq fun K4 hK4 => ?_
  refine reg ?_
  refine s_y (y_assign (v := Vf) rfl) rfl ?_
  refine s_nil (hK4 _ _ (genC [(0, (Vi b)), (1, (Vi p)), (2, (Vi d))] ⟨g1, g2, g3, trivial⟩ ?_))
  clear hK4; rintro E ⟨g5, g6, g7, -⟩
  refine seq fun K8 hK8 => ?_
  refine reg ?_
  refine s_y (y_assign (v := (.pointer none)) rfl) rfl ?_
  refine s_nil (hK8 _ _ (genC [(0, (Vi b)), (1, (Vi p)), (2, (Vi d)), (7, (.pointer none))] ⟨g5, g6, g7, rfl, trivial⟩ ?_))
  clear hK8; rintro E ⟨g9, g10, g11, g12, -⟩
  refine seq fun K13 hK13 => ?_
  refine reg ?_
  refine s_y (y_move (v := (.pointer none)) g12) rfl ?_
  refine s_y (y_move (v := (Vi b)) g9) rfl ?_
  refine s_y (y_move (v := (Vi p)) g10) rfl ?_
  refine s_e (e_call ca28 (args := [(.int .u8 1), (Vi p)]) rfl (peerT_spec 1 p _)) rfl ?_
  rintro _ w14 ⟨rfl, hk15⟩
  have ka16 : Kp (fun _ => False) w w14 := (Kp.then0 (Kp.refl _ _) hk15)
  refine s_y (y_move (v := (Vi d)) g11) rfl ?_
  refine s_e (e_call ca27 (args := [(.pointer none), (Vi b), (t4 (peerT 1 p)), (Vi 1), (Vi d)]) rfl (sadd_nil _ (⟨((peerT 1 p).addr), (peerT 1 p).port⟩ : T4) _ _)) rfl ?_
  rintro _ w17 ⟨rfl, hk18⟩
  have ka19 := (Kp.then0 ka16 hk18)
  refine s_y (y_move (v := (.tuple #[(sv zeroS), (Vi 2)])) rfl) rfl ?_
  refine s_y (y_ext rfl (v := (sv zeroS)) rfl) rfl ?_
  refine s_y (y_ext rfl (v := (Vi 2)) rfl) rfl ?_
  refine s_e (e_alloc ze59) rfl ?_
  rintro _ w20 ⟨rfl, hb21, hk22⟩
  have ka23 := (Kp.then0 ka19 hk22)
  refine s_e0 (e_storeV (cs' := zeroS.cs.toArray) zeroS.cs rfl (v := (sv zeroS)) rfl rfl sz59 hb21 rfl rfl rfl) ?_
  rintro _ w24 ⟨hb25, hk26⟩
  have ka27 := (Kp.fresh ka23 hk26 fun _ e => nl (nl (nl hk15.size hk18.size) (Nat.le_refl _)) (Nat.le_of_eq e.symm))
  refine s_y (y_assign (v := (Vi 2)) rfl) rfl ?_
  refine s_nil (hK13 _ _ (genC [(0, (Vi b)), (1, (Vi p)), (2, (Vi d)), (7, (.pointer none)), (9, (Vi 2))] ⟨g9, g10, g11, g12, rfl, trivial⟩ ?_))
  clear hK13; rintro E ⟨g28, g29, g30, g31, g32, -⟩
  refine seq fun K33 hK33 => ?_
  refine reg ?_
  refine s_y (y_move (v := (.pointer none)) g31) rfl ?_
  refine s_y (y_move (v := (Vi b)) g28) rfl ?_
  refine s_y (y_move (v := (Vi p)) g29) rfl ?_
  refine s_e (e_call ca28 (args := [(.int .u8 1), (Vi p)]) rfl (peerT_spec 1 p _)) rfl ?_
  rintro _ w34 ⟨rfl, hk35⟩
  have ka36 := (Kp.then0 ka27 hk35)
  refine s_e (e_call ca35 (args := [(.pointer none), (Vi b), (t4 (peerT 1 p))]) rfl (sfind_nil _ (⟨((peerT 1 p).addr), (peerT 1 p).port⟩ : T4))) rfl ?_
  rintro _ w37 ⟨rfl, hk38⟩
  have ka39 := (Kp.then0 ka36 hk38)
  refine s_y (y_move (v := (.tuple #[(sv zeroS), Vf])) rfl) rfl ?_
  refine s_y (y_ext rfl (v := (sv zeroS)) rfl) rfl ?_
  refine s_y (y_ext rfl (v := Vf) rfl) rfl ?_
  refine s_e (e_alloc ze59) rfl ?_
  rintro _ w40 ⟨rfl, hb41, hk42⟩
  have ka43 := (Kp.then0 ka39 hk42)
  refine s_e0 (e_storeV (cs' := zeroS.cs.toArray) zeroS.cs rfl (v := (sv zeroS)) rfl rfl sz59 hb41 rfl rfl rfl) ?_
  rintro _ w44 ⟨hb45, hk46⟩
  have hz48 := (nl (nl (nl (nl (nl hk15.size hk18.size) hk22.size) hk26.size) hk35.size) hk38.size)
  have ka47 := (Kp.fresh ka43 hk46 fun _ e => nl (nl hz48 (Nat.le_refl _)) (Nat.le_of_eq e.symm))
  refine s_y (y_assign (v := Vf) rfl) rfl ?_
  refine s_nil (hK33 _ _ (genC [(0, (Vi b)), (1, (Vi p)), (2, (Vi d)), (7, (.pointer none)), (9, (Vi 2)), (11, Vf)] ⟨g28, g29, g30, g31, g32, rfl, trivial⟩ ?_))
  clear hK33; rintro E ⟨g49, g50, g51, g52, g53, g54, -⟩
  refine seq fun K55 hK55 => ?_
  refine reg ?_
  refine s_y (y_move (v := (.pointer none)) g52) rfl ?_
  refine s_y (y_move (v := (Vi b)) g49) rfl ?_
  refine s_e (e_call ca29 (args := [(.pointer none), (Vi b)]) rfl (sdrop_nil _)) rfl ?_
  rintro _ w56 ⟨rfl, hk57⟩
  have ka58 := (Kp.then0 ka47 hk57)
  refine s_y (y_move (v := (.tuple #[(sv zeroS), (Vi 2)])) rfl) rfl ?_
  refine s_y (y_ext rfl (v := (sv zeroS)) rfl) rfl ?_
  refine s_y (y_ext rfl (v := (Vi 2)) rfl) rfl ?_
  refine s_e (e_alloc ze59) rfl ?_
  rintro _ w59 ⟨rfl, hb60, hk61⟩
  have ka62 := (Kp.then0 ka58 hk61)
  refine s_e0 (e_storeV (cs' := zeroS.cs.toArray) zeroS.cs rfl (v := (sv zeroS)) rfl rfl sz59 hb60 rfl rfl rfl) ?_
  rintro _ w63 ⟨hb64, hk65⟩
  have hz67 := (nl (nl (nl hz48 hk42.size) hk46.size) hk57.size)
  have ka66 := (Kp.fresh ka62 hk65 fun _ e => nl (nl hz67 (Nat.le_refl _)) (Nat.le_of_eq e.symm))
  refine s_y (y_assign (v := (Vi 2)) rfl) rfl ?_
  refine s_nil (hK55 _ _ (genC [(0, (Vi b)), (1, (Vi p)), (2, (Vi d)), (7, (.pointer none)), (9, (Vi 2)), (11, Vf), (13, (Vi 2))] ⟨g49, g50, g51, g52, g53, g54, rfl, trivial⟩ ?_))
  clear hK55; rintro E ⟨g68, g69, g70, g71, g72, g73, g74, -⟩
  refine seq fun K75 hK75 => ?_
  refine reg ?_
  refine s_y (y_move (v := (Vi 2)) g72) rfl ?_
  refine s_y (y_eql rfl rfl) rfl ?_
  refine s_y (y_move (v := Vt) rfl) rfl ?_
  refine s_gy (.yes rfl rfl) (y_move (v := Vf) g73) rfl ?_
  refine s_gy (.yes rfl rfl) (y_not rfl) rfl ?_
  refine s_y (y_pick_t rfl (v := Vt) rfl) rfl ?_
  refine s_y (y_move (v := Vt) rfl) rfl ?_
  refine s_gy (.yes rfl rfl) (y_move (v := (Vi 2)) g74) rfl ?_
  refine s_gy (.yes rfl rfl) (y_eql rfl rfl) rfl ?_
  refine s_y (y_pick_t rfl (v := Vt) rfl) rfl ?_
  refine s_y (y_move (v := Vt) rfl) rfl ?_
  refine s_gy (.yes rfl rfl) (y_move (v := (.pointer none)) g71) rfl ?_
  refine s_gy (.yes rfl rfl) (y_move (v := (Vi b)) g68) rfl ?_
  refine s_gy (.yes rfl rfl) (y_move (v := (Vi p)) g69) rfl ?_
  refine s_ge (.yes rfl rfl) (e_call ca28 (args := [(.int .u8 1), (Vi p)]) rfl (peerT_spec 1 p _)) rfl ?_
  rintro _ w76 ⟨rfl, hk77⟩
  have ka78 := (Kp.then0 ka66 hk77)
  refine s_ge (.yes rfl rfl) (e_call ca36 (args := [(.pointer none), (Vi b), (t4 (peerT 1 p))]) rfl (sroom_nil _ (⟨((peerT 1 p).addr), (peerT 1 p).port⟩ : T4))) rfl ?_
  rintro _ w79 ⟨rfl, hk80⟩
  have ka81 := (Kp.then0 ka78 hk80)
  refine s_gy (.yes rfl rfl) (y_eql rfl rfl) rfl ?_
  refine s_y (y_pick_t rfl (v := Vt) rfl) rfl ?_
  refine s_y (y_move (v := Vt) rfl) rfl ?_
  refine s_gy (.yes rfl rfl) (y_move (v := (.pointer none)) g71) rfl ?_
  refine s_gy (.yes rfl rfl) (y_move (v := (Vi b)) g68) rfl ?_
  refine s_gy (.yes rfl rfl) (y_build (vs := [(0, (.int .u8 9))]) (v := (.agg #[.int .u8 9, U0, U0, U0])) rfl (fun _ => by kernel_rfl)) rfl ?_
  refine s_ge (.yes rfl rfl) (e_call ca32 (args := [(.pointer none), (Vi b), (.agg #[.int .u8 9, U0, U0, U0])]) rfl (sknows_nil _ ⟨9, 0, 0, 0⟩)) rfl ?_
  rintro _ w82 ⟨rfl, hk83⟩
  have ka84 := (Kp.then0 ka81 hk83)
  refine s_gy (.yes rfl rfl) (y_not rfl) rfl ?_
  refine s_y (y_pick_t rfl (v := Vt) rfl) rfl ?_
  refine s_y (y_move (v := Vt) rfl) rfl ?_
  refine s_gy (.yes rfl rfl) (y_move (v := (.pointer none)) g71) rfl ?_
  refine s_gy (.yes rfl rfl) (y_move (v := (Vi b)) g68) rfl ?_
  refine s_gy (.yes rfl rfl) (y_move (v := (Vi d)) g70) rfl ?_
  refine s_ge (.yes rfl rfl) (e_call ca34 (args := [(.pointer none), (Vi b), (Vi 1), (Vi d)]) rfl (sset_nil _ _ _)) rfl ?_
  rintro _ w85 ⟨rfl, hk86⟩
  have ka87 := (Kp.then0 ka84 hk86)
  refine s_gy (.yes rfl rfl) (y_eql rfl rfl) rfl ?_
  refine s_y (y_pick_t rfl (v := Vt) rfl) rfl ?_
  refine s_y (y_move (v := Vt) rfl) rfl ?_
  refine s_gy (.yes rfl rfl) (y_move (v := (.pointer none)) g71) rfl ?_
  refine s_gy (.yes rfl rfl) (y_move (v := (Vi d)) g70) rfl ?_
  refine s_ge (.yes rfl rfl) (e_call ca30 (args := [(.pointer none), (Vi d)]) rfl (spop_nil _)) rfl ?_
  rintro _ w88 ⟨rfl, hk89⟩
  have ka90 := (Kp.then0 ka87 hk89)
  refine s_gy (.yes rfl rfl) (y_lenS so63 rfl) rfl ?_
  refine s_gy (.yes rfl rfl) (y_eql rfl rfl) rfl ?_
  refine s_y (y_pick_t rfl (v := (.bool (decide ((((0 : Nat) : Int) : Int) = 0)))) rfl) rfl ?_
  refine s_y (y_move (v := (.bool (decide ((((0 : Nat) : Int) : Int) = 0)))) rfl) rfl ?_
  by_cases c91 : (((0 : Nat) : Int) : Int) = 0
  · refine s_gy (.yes rfl (congrArg Value.bool (decide_eq_true c91))) (y_move (v := (.pointer none)) g71) rfl ?_
    refine s_gy (.yes rfl (congrArg Value.bool (decide_eq_true c91))) (y_move (v := (Vi b)) g68) rfl ?_
    refine s_ge (.yes rfl (congrArg Value.bool (decide_eq_true c91))) (e_call ca31 (args := [(.pointer none), (Vi b)]) rfl (sof_nil _)) rfl ?_
    rintro _ w92 ⟨rfl, hk93⟩
    have ka94 := (Kp.then0 ka90 hk93)
    refine s_gy (.yes rfl (congrArg Value.bool (decide_eq_true c91))) (y_lenS so63 rfl) rfl ?_
    refine s_gy (.yes rfl (congrArg Value.bool (decide_eq_true c91))) (y_eql rfl rfl) rfl ?_
    refine s_y (y_pick_t (congrArg Value.bool (decide_eq_true c91)) (v := (.bool (decide ((((0 : Nat) : Int) : Int) = 0)))) rfl) rfl ?_
    refine s_y (y_move (v := (.bool (decide ((((0 : Nat) : Int) : Int) = 0)))) rfl) rfl ?_
    by_cases c95 : (((0 : Nat) : Int) : Int) = 0
    · refine s_gy (.yes rfl (congrArg Value.bool (decide_eq_true c95))) (y_move (v := (.pointer none)) g71) rfl ?_
      refine s_ge (.yes rfl (congrArg Value.bool (decide_eq_true c95))) (e_call ca37 (args := [(.pointer none)]) rfl (sall_nil)) rfl ?_
      rintro _ w96 ⟨rfl, hk97⟩
      have ka98 := (Kp.then0 ka94 hk97)
      refine s_gy (.yes rfl (congrArg Value.bool (decide_eq_true c95))) (y_lenS so63 rfl) rfl ?_
      refine s_gy (.yes rfl (congrArg Value.bool (decide_eq_true c95))) (y_eql rfl rfl) rfl ?_
      refine s_y (y_pick_t (congrArg Value.bool (decide_eq_true c95)) (v := (.bool (decide ((((0 : Nat) : Int) : Int) = 0)))) rfl) rfl ?_
      refine s_y (y_move (v := (.bool (decide ((((0 : Nat) : Int) : Int) = 0)))) rfl) rfl ?_
      by_cases c99 : (((0 : Nat) : Int) : Int) = 0
      · refine s_gy (.yes rfl (congrArg Value.bool (decide_eq_true c99))) (y_move (v := (.pointer none)) g71) rfl ?_
        refine s_ge (.yes rfl (congrArg Value.bool (decide_eq_true c99))) (e_call ca33 (args := [(.pointer none)]) rfl (slen_nil)) rfl ?_
        rintro _ w100 ⟨rfl, hk101⟩
        have ka102 := (Kp.then0 ka98 hk101)
        refine s_gy (.yes rfl (congrArg Value.bool (decide_eq_true c99))) (y_eql rfl rfl) rfl ?_
        refine s_y (y_pick_t (congrArg Value.bool (decide_eq_true c99)) (v := Vt) rfl) rfl ?_
        refine s_y (y_move (v := Vt) rfl) rfl ?_
        have hf103 := (((((((((((((((((((hT.kp hk15 id).kp hk18 id).kp hk22 id).kp hk26 (Nat.ne_of_lt (nt (nt (hT.lt) (nl hk15.size hk18.size)) (Nat.le_refl _)))).kp hk35 id).kp hk38 id).kp hk42 id).kp hk46 (Nat.ne_of_lt (nt (nt (hT.lt) hz48) (Nat.le_refl _)))).kp hk57 id).kp hk61 id).kp hk65 (Nat.ne_of_lt (nt (nt (hT.lt) hz67) (Nat.le_refl _)))).kp hk77 id).kp hk80 id).kp hk83 id).kp hk86 id).kp hk89 id).kp hk93 id).kp hk97 id).kp hk101 id)
        refine s_ge (.yes rfl rfl) (e_call ca25 (args := []) rfl (swakes_spec hf103)) rfl ?_
        rintro _ w104 ⟨rfl, hk105⟩
        have ka106 := (Kp.then0 ka102 hk105)
        refine s_y (y_pick_t rfl (v := Vt) rfl) rfl ?_
        refine s_y (y_assign (v := Vt) rfl) rfl ?_
        refine s_nil (hK75 _ _ (genC [(6, Vt)] ⟨rfl, trivial⟩ ?_))
        clear hK75; rintro E ⟨g107, -⟩
        refine ret (hret _ _ [Vt] ⟨g107, trivial⟩ ?_)
        exact ⟨rfl, ka106⟩
      · exact absurd rfl c99
    · exact absurd rfl c95
  · exact absurd rfl c91

end Go.Proofs.YtdcnblafepgheaaDoor
