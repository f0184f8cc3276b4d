/-
  Written by a program (wip/walks).
-/
import Derived.Test.YtdcnblafepgheaaDoorE27
namespace Go.Proofs.YtdcnblafepgheaaDoor
open Go Go.V
set_option maxRecDepth 100000
def wkG : Gp := ⟨[⟨1, 0, 0, 1⟩], 1024, 1027, 3, ⟨1, 0, 0, 1⟩⟩
def wkA1 : Ab := ⟨1, [(⟨1, 17, ⟨⟨32, 1, 0, 0, 0, 0, 0, 0, 0, 0, 0, 0, 0, 0, 0, 1⟩, 5000⟩, ⟨⟨1, 0, 0, 1⟩, 1024⟩, false, 0⟩ : Binding)], setH ab0.h 2 [(⟨⟨1, 0, 0, 1⟩, 1024⟩, false)]⟩
theorem wk_1 : addA wkG ab0 17 ⟨⟨32, 1, 0, 0, 0, 0, 0, 0, 0, 0, 0, 0, 0, 0, 0, 1⟩, 5000⟩ = ((⟨1, 17, ⟨⟨32, 1, 0, 0, 0, 0, 0, 0, 0, 0, 0, 0, 0, 0, 0, 1⟩, 5000⟩, ⟨⟨1, 0, 0, 1⟩, 1024⟩, false, 0⟩ : Binding), 0, wkA1) := by kernel_rfl
theorem wk_2 : addA wkG wkA1 17 ⟨⟨32, 1, 0, 0, 0, 0, 0, 0, 0, 0, 0, 0, 0, 0, 0, 1⟩, 5000⟩ = (zeroB, 5, wkA1) := by kernel_rfl
theorem wk_3 : outA (wkA1).l 17 ⟨⟨1, 0, 0, 1⟩, 1024⟩ = some (⟨1, 17, ⟨⟨32, 1, 0, 0, 0, 0, 0, 0, 0, 0, 0, 0, 0, 0, 0, 1⟩, 5000⟩, ⟨⟨1, 0, 0, 1⟩, 1024⟩, false, 0⟩ : Binding) := by kernel_rfl
theorem wakes_spec {w : World} (hT : Tb w) : Rets Tryd.prog 22 #[] w fun v w' => v = .bool true ∧ K0 w w' := by
  refine enter Tryd.func22 rfl Tryd.ntmps22 rfl fun Q hret hend E hE => ?_
  clear hE
  refine seq fun K1 hK1 => ?_
  refine reg ?_
  refine s_y (y_assign (v := Vf) rfl) rfl ?_
  refine s_nil (hK1 _ _ (genC [] trivial ?_))
  clear hK1; rintro E -
  refine seq fun K2 hK2 => ?_
  refine reg ?_
  refine s_y (y_build (vs := [(0, (.int .u8 1)), (1, U0), (2, U0), (3, (.int .u8 1))]) (v := (.agg #[.int .u8 1, U0, U0, .int .u8 1])) rfl (fun _ => by kernel_rfl)) rfl ?_
  refine s_e (e_buildSlice (cs := #[(u8 1), (u8 0), (u8 0), (u8 1)]) (e := 27) (vs := [(0, (.agg #[.int .u8 1, U0, U0, .int .u8 1]))]) rfl (fun _ => by kernel_rfl)) rfl ?_
  rintro _ w3 ⟨rfl, hb4, hk5⟩
  have ka6 : Kp (fun _ => False) w w3 := (Kp.then0 (Kp.refl _ _) hk5)
  have hel7 : Elts V4.cs 4 w3 w.heap.size 0 [⟨1, 0, 0, 1⟩] := Own.all (T := 27) ⟨hb4, fun _ => rfl⟩
  have hf8 := (hT.kp hk5 id)
  refine s_e (e_call ca12 (args := [(.slice (some ⟨w.heap.size, 0, none⟩) 1 1), (Vi 1024), (Vi 1027), (Vi 3)]) rfl (bibnew_spec (l := [⟨1, 0, 0, 1⟩]) rfl (by decide) (by decide) hel7 (by decide) hf8)) rfl ?_
  rintro _ w9 ⟨⟨hx12, rfl⟩ | ⟨hx12, g11, rfl, hn13⟩, hk10⟩
  · exact absurd ⟨by decide, ⟨by decide, by decide, by decide, by decide, by decide, by decide, by decide⟩⟩ hx12
  have hfig11 : g11.first = ⟨1, 0, 0, 1⟩ := (Option.some.inj hn13.first).symm
  have ht14 : Tab wkG g11 0 w3.heap.size ab0 ⟨0, [], fun _ => []⟩ w9 := by have h9 := NewBib.tab hn13 (by decide); rw [hfig11] at h9; exact h9
  have ka15 := (Kp.then0 ka6 hk10)
  refine s_y (y_move (v := (.tuple #[(Vp g11.tb 0), (Vi 0)])) rfl) rfl ?_
  refine s_y (y_ext rfl (v := (Vp g11.tb 0)) rfl) rfl ?_
  refine s_y (y_ext rfl (v := (Vi 0)) rfl) rfl ?_
  refine s_y (y_assign (v := (Vp g11.tb 0)) rfl) rfl ?_
  refine s_y (y_assign (v := (Vi 0)) rfl) rfl ?_
  refine s_nil (hK2 _ _ (genC [(1, (Vp g11.tb 0)), (2, (Vi 0))] ⟨rfl, rfl, trivial⟩ ?_))
  clear hK2; rintro E ⟨g16, g17, -⟩
  refine seq fun K18 hK18 => ?_
  refine seq fun K19 hK19 => ?_
  refine reg ?_
  refine s_y (y_move (v := (Vi 0)) g17) rfl ?_
  refine s_y (y_neq rfl rfl) rfl ?_
  refine s_y (y_move (v := Vf) rfl) rfl ?_
  refine s_gy (.yes rfl rfl) (y_move (v := (Vp g11.tb 0)) g16) rfl ?_
  refine s_gy (.yes rfl rfl) (y_peq Tryd.underlying22 rfl rfl) rfl ?_
  refine s_y (y_pick_f rfl (v := Vf) rfl) rfl ?_
  refine s_nil (hK19 _ _ (genC [(1, (Vp g11.tb 0)), (20, Vf)] ⟨g16, rfl, trivial⟩ ?_))
  clear hK19; rintro E ⟨g20, g21, -⟩
  refine cond_f g21 ?_
  refine skip (hK18 _ _ (genC [(1, (Vp g11.tb 0))] ⟨g20, trivial⟩ ?_))
  clear hK18; rintro E ⟨g22, -⟩
  refine seq fun K23 hK23 => ?_
  refine reg ?_
  refine s_y (y_move (v := (Vp g11.tb 0)) g22) rfl ?_
  refine s_e (e_call ca14 (args := [(.int .u8 1), (Vi 5000)]) rfl (inT_spec 1 5000 _)) rfl ?_
  rintro _ w24 ⟨rfl, hk25⟩
  have ka26 := (Kp.then0 ka15 hk25)
  have hf27 := (Tab.k0 ht14 hk25)
  refine s_e (e_call ca13 (args := [(Vp g11.tb 0), (Vi 17), (.agg #[u8 32, u8 1, u8 0, u8 0, u8 0, u8 0, u8 0, u8 0, u8 0, u8 0, u8 0, u8 0, u8 0, u8 0, u8 0, u8 1, .int .i64 5000])]) rfl (add_x hf27 (by decide) 17 (by decide) ⟨⟨32, 1, 0, 0, 0, 0, 0, 0, 0, 0, 0, 0, 0, 0, 0, 1⟩, 5000⟩ (by decide))) rfl ?_
  rintro v28 w29 ⟨s30, hv31, hn32⟩
  rw [wk_1] at hv31 hn32; subst hv31
  have ka33 := (Kp.fresh ka26 (Nx.kp hn32) fun _ e => nl hk5.size (Tab.ge ht14 _ e))
  have hni34 : 0 ∉ bfp g11 ⟨0, [], fun _ => []⟩ := (Tab.tbn ht14)
  have hf35 := (((hf8.kp hk10 id).kp hk25 id).kp (Nx.kp hn32) hni34)
  refine s_y (y_move (v := (.tuple #[(.agg #[.int .i64 1, .int .i64 17, u8 32, u8 1, u8 0, u8 0, u8 0, u8 0, u8 0, u8 0, u8 0, u8 0, u8 0, u8 0, u8 0, u8 0, u8 0, u8 1, .int .i64 5000, u8 1, u8 0, u8 0, u8 1, .int .i64 1024, .bool false, .int .i64 0]), (Vi 0)])) rfl) rfl ?_
  refine s_y (y_ext rfl (v := (.agg #[.int .i64 1, .int .i64 17, u8 32, u8 1, u8 0, u8 0, u8 0, u8 0, u8 0, u8 0, u8 0, u8 0, u8 0, u8 0, u8 0, u8 0, u8 0, u8 1, .int .i64 5000, u8 1, u8 0, u8 0, u8 1, .int .i64 1024, .bool false, .int .i64 0])) rfl) rfl ?_
  refine s_y (y_ext rfl (v := (Vi 0)) rfl) rfl ?_
  refine s_e (e_alloc ze36) rfl ?_
  rintro _ w36 ⟨rfl, hb37, hk38⟩
  have ka39 := (Kp.then0 ka33 hk38)
  refine s_e0 (e_storeV (cs' := #[(Vi 1), (Vi 17), (u8 32), (u8 1), (u8 0), (u8 0), (u8 0), (u8 0), (u8 0), (u8 0), (u8 0), (u8 0), (u8 0), (u8 0), (u8 0), (u8 0), (u8 0), (u8 1), (Vi 5000), (u8 1), (u8 0), (u8 0), (u8 1), (Vi 1024), Vf, (Vi 0)]) [(Vi 1), (Vi 17), (u8 32), (u8 1), (u8 0), (u8 0), (u8 0), (u8 0), (u8 0), (u8 0), (u8 0), (u8 0), (u8 0), (u8 0), (u8 0), (u8 0), (u8 0), (u8 1), (Vi 5000), (u8 1), (u8 0), (u8 0), (u8 1), (Vi 1024), Vf, (Vi 0)] rfl (v := (.agg #[.int .i64 1, .int .i64 17, u8 32, u8 1, u8 0, u8 0, u8 0, u8 0, u8 0, u8 0, u8 0, u8 0, u8 0, u8 0, u8 0, u8 0, u8 0, u8 1, .int .i64 5000, u8 1, u8 0, u8 0, u8 1, .int .i64 1024, .bool false, .int .i64 0])) rfl rfl sz36 hb37 rfl rfl rfl) ?_
  rintro _ w40 ⟨hb41, hk42⟩
  have hz44 := (nl (nl (nl hk5.size hk10.size) hk25.size) (Nx.kp hn32).size)
  have ka43 := (Kp.fresh ka39 hk42 fun _ e => nl (nl hz44 (Nat.le_refl _)) (Nat.le_of_eq e.symm))
  refine s_y (y_assign (v := (Vi 0)) rfl) rfl ?_
  refine s_nil (hK23 _ _ (genC [(1, (Vp g11.tb 0)), (3, (Vp w29.heap.size 0)), (4, (Vi 0))] ⟨g22, rfl, rfl, trivial⟩ ?_))
  clear hK23; rintro E ⟨g45, g46, g47, -⟩
  refine seq fun K48 hK48 => ?_
  refine reg ?_
  refine s_y (y_move (v := (Vp g11.tb 0)) g45) rfl ?_
  refine s_e (e_call ca14 (args := [(.int .u8 1), (Vi 5000)]) rfl (inT_spec 1 5000 _)) rfl ?_
  rintro _ w49 ⟨rfl, hk50⟩
  have ka51 := (Kp.then0 ka43 hk50)
  have hni52 : w29.heap.size ∉ bfp g11 s30 := (fun e => Nat.lt_irrefl _ (nt (Tab.lt (Nx.tab hn32) _ e) (nl (Nat.le_refl _) (Nat.le_refl _))))
  have hf53 := (Tab.k0 (Tab.kp (Tab.k0 (Nx.tab hn32) hk38) hk42 (fun b hb => (fun e => hni52 (e ▸ hb))) (Nat.ne_of_lt (nt (hf35.lt) (Nat.le_refl _)))) hk50)
  refine s_e (e_call ca13 (args := [(Vp g11.tb 0), (Vi 17), (.agg #[u8 32, u8 1, u8 0, u8 0, u8 0, u8 0, u8 0, u8 0, u8 0, u8 0, u8 0, u8 0, u8 0, u8 0, u8 0, u8 1, .int .i64 5000])]) rfl (add_x hf53 (by decide) 17 (by decide) ⟨⟨32, 1, 0, 0, 0, 0, 0, 0, 0, 0, 0, 0, 0, 0, 0, 1⟩, 5000⟩ (by decide))) rfl ?_
  rintro v54 w55 ⟨s56, hv57, hn58⟩
  rw [wk_2] at hv57 hn58; subst hv57
  have ka59 := (Kp.fresh ka51 (Nx.kp hn58) fun _ e => nl hk5.size (Tab.ge (Nx.tab hn32) _ e))
  have hni60 : 0 ∉ bfp g11 s30 := (Tab.tbn (Nx.tab hn32))
  have hf61 := ((((hf35.kp hk38 id).kp hk42 (Nat.ne_of_lt (nt (hf35.lt) (Nat.le_refl _)))).kp hk50 id).kp (Nx.kp hn58) hni60)
  refine s_y (y_move (v := (.tuple #[(.agg zBc.toArray), (Vi 5)])) rfl) rfl ?_
  refine s_y (y_ext rfl (v := (.agg zBc.toArray)) rfl) rfl ?_
  refine s_y (y_ext rfl (v := (Vi 5)) rfl) rfl ?_
  refine s_e (e_alloc ze36) rfl ?_
  rintro _ w62 ⟨rfl, hb63, hk64⟩
  have ka65 := (Kp.then0 ka59 hk64)
  refine s_e0 (e_storeV (cs' := #[(Vi 0), (Vi 0), (u8 0), (u8 0), (u8 0), (u8 0), (u8 0), (u8 0), (u8 0), (u8 0), (u8 0), (u8 0), (u8 0), (u8 0), (u8 0), (u8 0), (u8 0), (u8 0), (Vi 0), (u8 0), (u8 0), (u8 0), (u8 0), (Vi 0), Vf, (Vi 0)]) [(Vi 0), (Vi 0), (u8 0), (u8 0), (u8 0), (u8 0), (u8 0), (u8 0), (u8 0), (u8 0), (u8 0), (u8 0), (u8 0), (u8 0), (u8 0), (u8 0), (u8 0), (u8 0), (Vi 0), (u8 0), (u8 0), (u8 0), (u8 0), (Vi 0), Vf, (Vi 0)] rfl (v := (.agg zBc.toArray)) rfl rfl sz36 hb63 rfl rfl rfl) ?_
  rintro _ w66 ⟨hb67, hk68⟩
  have hz70 := (nl (nl (nl (nl hz44 hk38.size) hk42.size) hk50.size) (Nx.kp hn58).size)
  have ka69 := (Kp.fresh ka65 hk68 fun _ e => nl (nl hz70 (Nat.le_refl _)) (Nat.le_of_eq e.symm))
  refine s_y (y_assign (v := (Vi 5)) rfl) rfl ?_
  refine s_nil (hK48 _ _ (genC [(1, (Vp g11.tb 0)), (3, (Vp w29.heap.size 0)), (4, (Vi 0)), (6, (Vi 5))] ⟨g45, g46, g47, rfl, trivial⟩ ?_))
  clear hK48; rintro E ⟨g71, g72, g73, g74, -⟩
  refine seq fun K75 hK75 => ?_
  refine reg ?_
  refine s_y (y_move (v := (Vp g11.tb 0)) g71) rfl ?_
  refine s_e (e_call ca15 (args := [(.int .u8 1), (Vi 1024)]) rfl (outT_spec 1 1024 _)) rfl ?_
  rintro _ w76 ⟨rfl, hk77⟩
  have ka78 := (Kp.then0 ka69 hk77)
  have hni79 : w55.heap.size ∉ bfp g11 s56 := (fun e => Nat.lt_irrefl _ (nt (Tab.lt (Nx.tab hn58) _ e) (nl (Nat.le_refl _) (Nat.le_refl _))))
  have hf80 := (Tab.k0 (Tab.kp (Tab.k0 (Nx.tab hn58) hk64) hk68 (fun b hb => (fun e => hni79 (e ▸ hb))) (Nat.ne_of_lt (nt (hf61.lt) (Nat.le_refl _)))) hk77)
  refine s_e (e_call ca41 (args := [(Vp g11.tb 0), (Vi 17), (.agg #[u8 1, u8 0, u8 0, u8 1, .int .i64 1024])]) rfl (out_x hf80 17 ⟨⟨1, 0, 0, 1⟩, 1024⟩ (by decide) (by decide))) rfl ?_
  rintro v81 w82 ⟨hv84, hk83⟩
  rw [wk_3] at hv84; subst hv84
  have ka85 := (Kp.then0 ka78 hk83)
  refine s_y (y_move (v := (.tuple #[(.agg #[.int .i64 1, .int .i64 17, u8 32, u8 1, u8 0, u8 0, u8 0, u8 0, u8 0, u8 0, u8 0, u8 0, u8 0, u8 0, u8 0, u8 0, u8 0, u8 1, .int .i64 5000, u8 1, u8 0, u8 0, u8 1, .int .i64 1024, .bool false, .int .i64 0]), Vt])) rfl) rfl ?_
  refine s_y (y_ext rfl (v := (.agg #[.int .i64 1, .int .i64 17, u8 32, u8 1, u8 0, u8 0, u8 0, u8 0, u8 0, u8 0, u8 0, u8 0, u8 0, u8 0, u8 0, u8 0, u8 0, u8 1, .int .i64 5000, u8 1, u8 0, u8 0, u8 1, .int .i64 1024, .bool false, .int .i64 0])) rfl) rfl ?_
  refine s_y (y_ext rfl (v := Vt) rfl) rfl ?_
  refine s_e (e_alloc ze36) rfl ?_
  rintro _ w86 ⟨rfl, hb87, hk88⟩
  have ka89 := (Kp.then0 ka85 hk88)
  refine s_e0 (e_storeV (cs' := #[(Vi 1), (Vi 17), (u8 32), (u8 1), (u8 0), (u8 0), (u8 0), (u8 0), (u8 0), (u8 0), (u8 0), (u8 0), (u8 0), (u8 0), (u8 0), (u8 0), (u8 0), (u8 1), (Vi 5000), (u8 1), (u8 0), (u8 0), (u8 1), (Vi 1024), Vf, (Vi 0)]) [(Vi 1), (Vi 17), (u8 32), (u8 1), (u8 0), (u8 0), (u8 0), (u8 0), (u8 0), (u8 0), (u8 0), (u8 0), (u8 0), (u8 0), (u8 0), (u8 0), (u8 0), (u8 1), (Vi 5000), (u8 1), (u8 0), (u8 0), (u8 1), (Vi 1024), Vf, (Vi 0)] rfl (v := (.agg #[.int .i64 1, .int .i64 17, u8 32, u8 1, u8 0, u8 0, u8 0, u8 0, u8 0, u8 0, u8 0, u8 0, u8 0, u8 0, u8 0, u8 0, u8 0, u8 1, .int .i64 5000, u8 1, u8 0, u8 0, u8 1, .int .i64 1024, .bool false, .int .i64 0])) rfl rfl sz36 hb87 rfl rfl rfl) ?_
  rintro _ w90 ⟨hb91, hk92⟩
  have hz94 := (nl (nl (nl (nl hz70 hk64.size) hk68.size) hk77.size) hk83.size)
  have ka93 := (Kp.fresh ka89 hk92 fun _ e => nl (nl hz94 (Nat.le_refl _)) (Nat.le_of_eq e.symm))
  refine s_y (y_assign (v := Vt) rfl) rfl ?_
  refine s_nil (hK75 _ _ (genC [(1, (Vp g11.tb 0)), (3, (Vp w29.heap.size 0)), (4, (Vi 0)), (6, (Vi 5)), (7, (Vp w82.heap.size 0)), (8, Vt)] ⟨g71, g72, g73, g74, rfl, rfl, trivial⟩ ?_))
  clear hK75; rintro E ⟨g95, g96, g97, g98, g99, g100, -⟩
  refine seq fun K101 hK101 => ?_
  refine regD (fun _ => False) (.take 0 (.take 1 (.take 2 (.take 3 (.take 4 (.take 5 (.take 6 (.take 7 (.take 8 (.take 9 (.take 10 (.take 11 (.take 12 (.take 13 (.one 14 (.take 15 (.take 16 (.take 17 (.take 18 (.take 19 (.take 20 (.take 21 (.take 22 (.take 23 (.take 24 (.take 25 (.take 26 (.one 27 (.take 28 (.take 29 (.take 30 .done))))))))))))))))))))))))))))))) mixed (by kernel_rfl) fun w102 hh103 hk104 => ?_
  have ka105 := (Kp.then0 ka93 hk104)
  refine o_y rfl (y_move (v := (Vi 0)) g97) ?_
  refine o_y rfl (y_eql rfl rfl) ?_
  refine o_y rfl (y_move (v := Vt) rfl) ?_
  refine o_gy rfl (.yes rfl rfl) (y_move (v := (Vi 5)) g98) ?_
  refine o_gy rfl (.yes rfl rfl) (y_eql rfl rfl) ?_
  refine o_y rfl (y_pick_t rfl (v := Vt) rfl) ?_
  refine o_y rfl (y_move (v := Vt) rfl) ?_
  refine o_gy rfl (.yes rfl rfl) (y_fld fo36_0 g96) ?_
  have hz106 := (nl (nl (nl (nl (nl hk50.size (Nx.kp hn58).size) hk64.size) hk68.size) hk77.size) hk83.size)
  refine o_gy rfl (.yes rfl rfl) (y_load (v := (Vi 1)) rfl (rd_sc sc3 (On.kp (hk104.get0 (hk92.get (hk88.get0 (hk83.get0 (hk77.get0 (hk68.get (hk64.get0 ((Nx.kp hn58).get (hk50.get0 hb41) hni52)) (Nat.ne_of_lt (nt (nt (lt_of_get hb41) (nl hk50.size (Nx.kp hn58).size)) (Nat.le_refl _))))))) (Nat.ne_of_lt (nt (nt (lt_of_get hb41) hz106) (Nat.le_refl _))))) id) rfl)) ?_
  refine o_gy rfl (.yes rfl rfl) (y_eql rfl rfl) ?_
  refine o_y rfl (y_pick_t rfl (v := Vt) rfl) ?_
  refine o_y rfl (y_move (v := Vt) rfl) ?_
  refine o_gy rfl (.yes rfl rfl) (y_fld fo36_3 g96) ?_
  refine o_gy rfl (.yes rfl rfl) (y_load (v := (t4 (⟨(⟨1, 0, 0, 1⟩ : V4), 1024⟩ : T4))) rfl (rd_agg (vs := [(u8 1), (u8 0), (u8 0), (u8 1), (Vi 1024)]) ag34 (On.kp (hk104.get0 (hk92.get (hk88.get0 (hk83.get0 (hk77.get0 (hk68.get (hk64.get0 ((Nx.kp hn58).get (hk50.get0 hb41) hni52)) (Nat.ne_of_lt (nt (nt (lt_of_get hb41) (nl hk50.size (Nx.kp hn58).size)) (Nat.le_refl _))))))) (Nat.ne_of_lt (nt (nt (lt_of_get hb41) hz106) (Nat.le_refl _))))) id) (by kernel_rfl) rfl)) ?_
  refine o_one ?_
  refine c_ge rfl (.yes rfl rfl) (e_call ca15 (args := [(.int .u8 1), (Vi 1024)]) rfl (outT_spec 1 1024 _)) ?_
  rintro _ w107 ⟨rfl, hk108⟩
  have ka109 := (Kp.then0 ka105 hk108)
  have ks110 : Kp (fun _ => False) w102 w107 := (Kp.then0 (Kp.refl _ _) hk108)
  refine ⟨ks110, ?_⟩
  refine o_gy rfl (.yes rfl rfl) (y_eqT (eq34 9997) eg34 (x := (⟨(⟨1, 0, 0, 1⟩ : V4), 1024⟩ : T4)) (y := (⟨(⟨1, 0, 0, 1⟩ : V4), 1024⟩ : T4)) rfl rfl ⟨_, rfl⟩ ⟨_, rfl⟩) ?_
  refine o_y rfl (y_pick_t rfl (v := (.bool (decide ((⟨(⟨1, 0, 0, 1⟩ : V4), 1024⟩ : T4) = (⟨(⟨1, 0, 0, 1⟩ : V4), 1024⟩ : T4))))) rfl) ?_
  refine o_y rfl (y_move (v := (.bool (decide ((⟨(⟨1, 0, 0, 1⟩ : V4), 1024⟩ : T4) = (⟨(⟨1, 0, 0, 1⟩ : V4), 1024⟩ : T4))))) rfl) ?_
  by_cases c111 : (⟨(⟨1, 0, 0, 1⟩ : V4), 1024⟩ : T4) = (⟨(⟨1, 0, 0, 1⟩ : V4), 1024⟩ : T4)
  · refine o_gy rfl (.yes rfl (congrArg Value.bool (decide_eq_true c111))) (y_move (v := Vt) g100) ?_
    refine o_y rfl (y_pick_t (congrArg Value.bool (decide_eq_true c111)) (v := Vt) rfl) ?_
    refine o_y rfl (y_move (v := Vt) rfl) ?_
    refine o_gy rfl (.yes rfl rfl) (y_load (v := (bv (⟨1, 17, (⟨(⟨32, 1, 0, 0, 0, 0, 0, 0, 0, 0, 0, 0, 0, 0, 0, 1⟩ : V6), 5000⟩ : T6), (⟨(⟨1, 0, 0, 1⟩ : V4), 1024⟩ : T4), false, 0⟩ : Binding))) g99 (rd_agg (vs := [(Vi 1), (Vi 17), (u8 32), (u8 1), (u8 0), (u8 0), (u8 0), (u8 0), (u8 0), (u8 0), (u8 0), (u8 0), (u8 0), (u8 0), (u8 0), (u8 0), (u8 0), (u8 1), (Vi 5000), (u8 1), (u8 0), (u8 0), (u8 1), (Vi 1024), Vf, (Vi 0)]) ag36 (On.kp (hk104.get0 hb91) id) (by kernel_rfl) rfl)) ?_
    refine o_gy rfl (.yes rfl rfl) (y_load (v := (bv (⟨1, 17, (⟨(⟨32, 1, 0, 0, 0, 0, 0, 0, 0, 0, 0, 0, 0, 0, 0, 1⟩ : V6), 5000⟩ : T6), (⟨(⟨1, 0, 0, 1⟩ : V4), 1024⟩ : T4), false, 0⟩ : Binding))) g96 (rd_agg (vs := [(Vi 1), (Vi 17), (u8 32), (u8 1), (u8 0), (u8 0), (u8 0), (u8 0), (u8 0), (u8 0), (u8 0), (u8 0), (u8 0), (u8 0), (u8 0), (u8 0), (u8 0), (u8 1), (Vi 5000), (u8 1), (u8 0), (u8 0), (u8 1), (Vi 1024), Vf, (Vi 0)]) ag36 (On.kp (hk104.get0 (hk92.get (hk88.get0 (hk83.get0 (hk77.get0 (hk68.get (hk64.get0 ((Nx.kp hn58).get (hk50.get0 hb41) hni52)) (Nat.ne_of_lt (nt (nt (lt_of_get hb41) (nl hk50.size (Nx.kp hn58).size)) (Nat.le_refl _))))))) (Nat.ne_of_lt (nt (nt (lt_of_get hb41) hz106) (Nat.le_refl _))))) id) (by kernel_rfl) rfl)) ?_
    refine o_gy rfl (.yes rfl rfl) (y_eqT (eq36 9996) eg36 (x := (⟨1, 17, (⟨(⟨32, 1, 0, 0, 0, 0, 0, 0, 0, 0, 0, 0, 0, 0, 0, 1⟩ : V6), 5000⟩ : T6), (⟨(⟨1, 0, 0, 1⟩ : V4), 1024⟩ : T4), false, 0⟩ : Binding)) (y := (⟨1, 17, (⟨(⟨32, 1, 0, 0, 0, 0, 0, 0, 0, 0, 0, 0, 0, 0, 0, 1⟩ : V6), 5000⟩ : T6), (⟨(⟨1, 0, 0, 1⟩ : V4), 1024⟩ : T4), false, 0⟩ : Binding)) rfl rfl ⟨_, rfl⟩ ⟨_, rfl⟩) ?_
    refine o_y rfl (y_pick_t rfl (v := (.bool (decide ((⟨1, 17, (⟨(⟨32, 1, 0, 0, 0, 0, 0, 0, 0, 0, 0, 0, 0, 0, 0, 1⟩ : V6), 5000⟩ : T6), (⟨(⟨1, 0, 0, 1⟩ : V4), 1024⟩ : T4), false, 0⟩ : Binding) = (⟨1, 17, (⟨(⟨32, 1, 0, 0, 0, 0, 0, 0, 0, 0, 0, 0, 0, 0, 0, 1⟩ : V6), 5000⟩ : T6), (⟨(⟨1, 0, 0, 1⟩ : V4), 1024⟩ : T4), false, 0⟩ : Binding))))) rfl) ?_
    refine o_y rfl (y_move (v := (.bool (decide ((⟨1, 17, (⟨(⟨32, 1, 0, 0, 0, 0, 0, 0, 0, 0, 0, 0, 0, 0, 0, 1⟩ : V6), 5000⟩ : T6), (⟨(⟨1, 0, 0, 1⟩ : V4), 1024⟩ : T4), false, 0⟩ : Binding) = (⟨1, 17, (⟨(⟨32, 1, 0, 0, 0, 0, 0, 0, 0, 0, 0, 0, 0, 0, 0, 1⟩ : V6), 5000⟩ : T6), (⟨(⟨1, 0, 0, 1⟩ : V4), 1024⟩ : T4), false, 0⟩ : Binding))))) rfl) ?_
    by_cases c112 : (⟨1, 17, (⟨(⟨32, 1, 0, 0, 0, 0, 0, 0, 0, 0, 0, 0, 0, 0, 0, 1⟩ : V6), 5000⟩ : T6), (⟨(⟨1, 0, 0, 1⟩ : V4), 1024⟩ : T4), false, 0⟩ : Binding) = (⟨1, 17, (⟨(⟨32, 1, 0, 0, 0, 0, 0, 0, 0, 0, 0, 0, 0, 0, 0, 1⟩ : V6), 5000⟩ : T6), (⟨(⟨1, 0, 0, 1⟩ : V4), 1024⟩ : T4), false, 0⟩ : Binding)
    · refine o_gy rfl (.yes rfl (congrArg Value.bool (decide_eq_true c112))) (y_move (v := (Vp g11.tb 0)) g95) ?_
      refine o_one ?_
      have hz113 := (nl (nl (nl hk64.size hk68.size) hk77.size) hk83.size)
      have hni114 : w82.heap.size ∉ bfp g11 s56 := (fun e => Nat.lt_irrefl _ (nt (Tab.lt (Nx.tab hn58) _ e) (nl hz113 (Nat.le_refl _))))
      have hf115 := (Tab.k0 (Tab.k0 (Tab.kp (Tab.k0 (Tab.k0 hf80 hk83) hk88) hk92 (fun b hb => (fun e => hni114 (e ▸ hb))) (Nat.ne_of_lt (nt (nt (hf61.lt) hz113) (Nat.le_refl _)))) hk104) hk108)
      refine c_ge rfl (.yes rfl (congrArg Value.bool (decide_eq_true c112))) (e_call ca18 (args := [(Vp g11.tb 0)]) rfl (len_x hf115)) ?_
      rintro _ w116 ⟨rfl, hk117⟩
      have ka118 := (Kp.then0 ka109 hk117)
      have ks119 := (Kp.then0 ks110 hk117)
      refine ⟨ks119, ?_⟩
      refine o_gy rfl (.yes rfl (congrArg Value.bool (decide_eq_true c112))) (y_eql rfl rfl) ?_
      refine o_y rfl (y_pick_t (congrArg Value.bool (decide_eq_true c112)) (v := Vt) rfl) ?_
      refine o_y rfl (y_assign (v := Vt) rfl) ?_
      refine o_done (hK101 _ _ (genC [(0, Vt)] ⟨rfl, trivial⟩ ?_))
      clear hK101; rintro E ⟨g120, -⟩
      refine ret (hret _ _ [Vt] ⟨g120, trivial⟩ ?_)
      exact ⟨rfl, ka118⟩
    · exact absurd rfl c112
  · exact absurd rfl c111

end Go.Proofs.YtdcnblafepgheaaDoor
