/-
  Written by a program (wip/walks).
-/
import Derived.Test.YtdcnblafepgheaaDoorE27
namespace Go.Proofs.YtdcnblafepgheaaDoor
open Go Go.V
set_option maxRecDepth 100000
def wkG : Gp := ⟨[⟨1, 0, 0, 1⟩], 1024, 1027, 3, ⟨1, 0, 0, 1⟩⟩
def wkA1 : Ab := ⟨1, [(⟨1, 17, ⟨⟨32, 1, 0, 0, 0, 0, 0, 0, 0, 0, 0, 0, 0, 0, 0, 1⟩, 5000⟩, ⟨⟨1, 0, 0, 1⟩, 1024⟩, false, 0⟩ : Binding)], setH ab0.h 2 [(⟨⟨1, 0, 0, 1⟩, 1024⟩, false)]⟩
theorem wk_1 : addA wkG ab0 17 ⟨⟨32, 1, 0, 0, 0, 0, 0, 0, 0, 0, 0, 0, 0, 0, 0, 1⟩, 5000⟩ = ((⟨1, 17, ⟨⟨32, 1, 0, 0, 0, 0, 0, 0, 0, 0, 0, 0, 0, 0, 0, 1⟩, 5000⟩, ⟨⟨1, 0, 0, 1⟩, 1024⟩, false, 0⟩ : Binding), 0, wkA1) := by kernel_rfl
theorem wk_2 : addA wkG wkA1 17 ⟨⟨32, 1, 0, 0, 0, 0, 0, 0, 0, 0, 0, 0, 0, 0, 0, 1⟩, 5000⟩ = (zeroB, 5, wkA1) := by kernel_rfl
theorem wk_3 : outA (wkA1).l 17 ⟨⟨1, 0, 0, 1⟩, 1024⟩ = some (⟨1, 17, ⟨⟨32, 1, 0, 0, 0, 0, 0, 0, 0, 0, 0, 0, 0, 0, 0, 1⟩, 5000⟩, ⟨⟨1, 0, 0, 1⟩, 1024⟩, false, 0⟩ : Binding) := by kernel_rfl
theorem wakes_spec {w : World} (hT : Tb w) : Rets Tryd.prog 22 #[] w fun v w' => v = .bool true ∧ K0 w w' := by
  refine enter Tryd.func22 rfl Tryd.ntmps22 rfl fun Q hret hend E hE => ?_
  clear hE
  refine seq fun K1 hK1 => ?_
  refine reg ?_
  refine s_y (y_assign (v := Vf) rfl) rfl ?_
  refine s_nil (hK1 _ _ (genC [] trivial ?_))
  clear hK1; rintro E -
  refine seq fun K2 hK2 => ?_
  refine reg ?_
  refine s_y (y_build (vs := [(0, (.int .u8 1)), (1, U0), (2, U0), (3, (.int .u8 1))]) (v := (.agg #[.int .u8 1, U0, U0, .int .u8 1])) rfl (fun _ => by kernel_rfl)) rfl ?_
  refine s_e (e_buildSlice (cs := #[(u8 1), (u8 0), (u8 0), (u8 1)]) (e := 27) (vs := [(0, (.agg #[.int .u8 1, U0, U0, .int .u8 1]))]) rfl (fun _ => by kernel_rfl)) rfl ?_
  rintro _ w3 ⟨rfl, hb4, hk5⟩
  have ka6 : Kp (fun _ => False) w w3 := (Kp.then0 (Kp.refl _ _) hk5)
  have hel7 : Elts V4.cs 4 w3 w.heap.size 0 [⟨1, 0, 0, 1⟩] := Own.all (T := 27) ⟨hb4, fun _ => rfl⟩
  have hf8 := (hT.kp hk5 id)
  refine s_e (e_call ca12 (args := [(.slice (some ⟨w.heap.size, 0, none⟩) 1 1), (Vi 1024), (Vi 1027), (Vi 3)]) rfl (bibnew_spec (l := [⟨1, 0, 0, 1⟩]) rfl (by decide) (by decide) hel7 (by decide) hf8)) rfl ?_
  rintro _ w9 ⟨⟨hx12, rfl⟩ | ⟨hx12, g11, rfl, hn13⟩, hk10⟩
  · exact absurd ⟨by decide, ⟨by decide, by decide, by decide, by decide, by decide, by decide, by decide⟩⟩ hx12
  have hfig11 : g11.first = ⟨1, 0, 0, 1⟩ := (Option.some.inj hn13.first).symm
  have ht14 : Tab wkG g11 0 w3.heap.size ab0 ⟨0, [], fun _ => []⟩ w9 := by have h9 := NewBib.tab hn13 (by decide); rw [hfig11] at h9; exact h9
  have ka15 := (Kp.then0 ka6 hk10)
  refine s_y (y_move (v := (.tuple #[(Vp g11.tb 0), (Vi 0)])) rfl) rfl ?_
  refine s_y (y_ext rfl (v := (Vp g11.tb 0)) rfl) rfl ?_
  refine s_y (y_ext rfl (v := (Vi 0)) rfl) rfl ?_
  refine s_y (y_assign (v := (Vp g11.tb 0)) rfl) rfl ?_
  refine s_y (y_assign (v := (Vi 0)) rfl) rfl ?_
  refine s_nil (hK2 _ _ (genC [(1, (Vp g11.tb 0)), (2, (Vi 0))] ⟨rfl, rfl, trivial⟩ ?_))
  clear hK2; rintro E ⟨g16, g17, -⟩
  refine seq fun K18 hK18 => ?_
  refine seq fun K19 hK19 => ?_
  refine reg ?_
  refine s_y (y_move (v := (Vi 0)) g17) rfl ?_
  refine s_y (y_neq rfl rfl) rfl ?_
  refine s_y (y_move (v := Vf) rfl) rfl ?_
  refine s_gy (.yes rfl rfl) (y_move (v := (Vp g11.tb 0)) g16) rfl ?_
  refine s_gy (.yes rfl rfl) (y_peq Tryd.underlying22 rfl rfl) rfl ?_
  refine s_y (y_pick_f rfl (v := Vf) rfl) rfl ?_
  refine s_nil (hK19 _ _ (genC [(1, (Vp g11.tb 0)), (20, Vf)] ⟨g16, rfl, trivial⟩ ?_))
  clear hK19; rintro E ⟨g20, g21, -⟩
  refine cond_f g21 ?_
  refine skip (hK18 _ _ (genC [(1, (Vp g11.tb 0))] ⟨g20, trivial⟩ ?_))
  clear hK18; rintro E ⟨g22, -⟩
  refine seq fun K23 hK23 => ?_
  refine reg ?_
  refine s_y (y_move (v := (Vp g11.tb 0)) g22) rfl ?_
  refine s_e (e_call ca14 (args := [(.int .u8 1), (Vi 5000)]) rfl (inT_spec 1 5000 _)) rfl ?_
  rintro _ w24 ⟨rfl, hk25⟩
  have ka26 := (Kp.then0 ka15 hk25)
  have hf27 := (Tab.k0 ht14 hk25)
  refine s_e (e_call ca13 (args := [(Vp g11.tb 0), (Vi 17), (.agg #[u8 32, u8 1, u8 0, u8 0, u8 0, u8 0, u8 0, u8 0, u8 0, u8 0, u8 0, u8 0, u8 0, u8 0, u8 0, u8 1, .int .i64 5000])]) rfl (add_x hf27 (by decide) 17 (by decide) ⟨⟨32, 1, 0, 0, 0, 0, 0, 0, 0, 0, 0, 0, 0, 0, 0, 1⟩, 5000⟩ (by decide))) rfl ?_
  rintro v28 w29 ⟨s30, hv31, hn32⟩
  rw [wk_1] at hv31 hn32; subst hv31
  have ka33 := (Kp.fresh ka26 (Nx.kp hn32) fun _ e => nl hk5.size (Tab.ge ht14 _ e))
  have hni34 : 0 ∉ bfp g11 ⟨0, [], fun _ => []⟩ := (Tab.tbn ht14)
  have hf35 := (((hf8.kp hk10 id).kp hk25 id).kp (Nx.kp hn32) hni34)
  refine s_y (y_move (v := (.tuple #[(.agg #[.int .i64 1, .int .i64 17, u8 32, u8 1, u8 0, u8 0, u8 0, u8 0, u8 0, u8 0, u8 0, u8 0, u8 0, u8 0, u8 0, u8 0, u8 0, u8 1, .int .i64 5000, u8 1, u8 0, u8 0, u8 1, .int .i64 1024, .bool false, .int .i64 0]), (Vi 0)])) rfl) rfl ?_
  refine s_y (y_ext rfl (v := (.agg #[.int .i64 1, .int .i64 17, u8 32, u8 1, u8 0, u8 0, u8 0, u8 0, u8 0, u8 0, u8 0, u8 0, u8 0, u8 0, u8 0, u8 0, u8 0, u8 1, .int .i64 5000, u8 1, u8 0, u8 0, u8 1, .int .i64 1024, .bool false, .int .i64 0])) rfl) rfl ?_
  refine s_y (y_ext rfl (v := (Vi 0)) rfl) rfl ?_
  refine s_e (e_alloc ze36) rfl ?_
  rintro _ w36 ⟨rfl, hb37, hk38⟩
  have ka39 := (Kp.then0 ka33 hk38)
  refine s_e0 (e_storeV (cs' := #[(Vi 1), (Vi 17), (u8 32), (u8 1), (u8 0), (u8 0), (u8 0), (u8 0), (u8 0), (u8 0), (u8 0), (u8 0), (u8 0), (u8 0), (u8 0), (u8 0), (u8 0), (u8 1), (Vi 5000), (u8 1), (u8 0), (u8 0), (u8 1), (Vi 1024), Vf, (Vi 0)]) [(Vi 1), (Vi 17), (u8 32), (u8 1), (u8 0), (u8 0), (u8 0), (u8 0), (u8 0), (u8 0), (u8 0), (u8 0), (u8 0), (u8 0), (u8 0), (u8 0), (u8 0), (u8 1), (Vi 5000), (u8 1), (u8 0), (u8 0), (u8 1), (Vi 1024), Vf, (Vi 0)] rfl (v := (.agg #[.int .i64 1, .int .i64 17, u8 32, u8 1, u8 0, u8 0, u8 0, u8 0, u8 0, u8 0, u8 0, u8 0, u8 0, u8 0, u8 0, u8 0, u8 0, u8 1, .int .i64 5000, u8 1, u8 0, u8 0, u8 1, .int .i64 1024, .bool false, .int .i64 0])) rfl rfl sz36 hb37 rfl rfl rfl) ?_
  rintro _ w40 ⟨hb41, hk42⟩
  have hz44 := (nl (nl (nl hk5.size hk10.size) hk25.size) (Nx.kp hn32).size)
  have ka43 := (Kp.fresh ka39 hk42 fun _ e => nl (nl hz44 (Nat.le_refl _)) (Nat.le_of_eq e.symm))
  refine s_y (y_assign (v := (Vi 0)) rfl) rfl ?_
  refine s_nil (hK23 _ _ (genC [(1, (Vp g11.tb 0)), (3, (Vp w29.heap.size 0)), (4, (Vi 0))] ⟨g22, rfl, rfl, trivial⟩ ?_))
  clear hK23; rintro E ⟨g45, g46, g47, -⟩
  refine seq fun K48 hK48 => ?_
  refine reg ?_
  refine s_y (y_move (v := (Vp g11.tb 0)) g45) rfl ?_
  refine s_e (e_call ca14 (args := [(.int .u8 1), (Vi 5000)]) rfl (inT_spec 1 5000 _)) rfl ?_
  rintro _ w49 ⟨rfl, hk50⟩
  have ka51 := (Kp.then0 ka43 hk50)
  have hni52 : w29.heap.size ∉ bfp g11 s30 := (fun e => Nat.lt_irrefl _ (nt (Tab.lt (Nx.tab hn32) _ e) (nl (Nat.le_refl _) (Nat.le_refl _))))
  have hf53 := (Tab.k0 (Tab.kp (Tab.k0 (Nx.tab hn32) hk38) hk42 (fun b hb => (fun e => hni52 (e ▸ hb))) (Nat.ne_of_lt (nt (hf35.lt) (Nat.le_refl _)))) hk50)
  refine s_e (e_call ca13 (args := [(Vp g11.tb 0), (Vi 17), (.agg #[u8 32, u8 1, u8 0, u8 0, u8 0, u8 0, u8 0, u8 0, u8 0, u8 0, u8 0, u8 0, u8 0, u8 0, u8 0, u8 1, .int .i64 5000])]) rfl (add_x hf53 (by decide) 17 (by decide) ⟨⟨32, 1, 0, 0, 0, 0, 0, 0, 0, 0, 0, 0, 0, 0, 0, 1⟩, 5000⟩ (by decide))) rfl ?_
  rintro v54 w55 ⟨s56, hv57, hn58⟩
  rw [wk_2] at hv57 hn58; subst hv57
  have ka59 := (Kp.fresh ka51 (Nx.kp hn58) fun _ e => nl hk5.size (Tab.ge (Nx.tab hn32) _ e))
  have hni60 : 0 ∉ bfp g11 s30 := (Tab.tbn (Nx.tab hn32))
  have hf61 := ((((hf35.kp hk38 id).kp hk42 (Nat.ne_of_lt (nt (hf35.lt) (Nat.le_refl _)))).kp hk50 id).kp (Nx.kp hn58) hni60)
  refine s_y (y_move (v := (.tuple #[(.agg zBc.toArray), (Vi 5)])) rfl) rfl ?_
  refine s_y (y_ext rfl (v := (.agg zBc.toArray)) rfl) rfl ?_
  refine s_y (y_ext rfl (v := (Vi 5)) rfl) rfl ?_
  refine s_e (e_alloc ze36) rfl ?_
  rintro _ w62 ⟨rfl, hb63, hk64⟩
  have ka65 := (Kp.then0 ka59 hk64)
  refine s_e0 (e_storeV (cs' := #[(Vi 0), (Vi 0), (u8 0), (u8 0), (u8 0), (u8 0), (u8 0), (u8 0), (u8 0), (u8 0), (u8 0), (u8 0), (u8 0), (u8 0), (u8 0), (u8 0), (u8 0), (u8 0), (Vi 0), (u8 0), (u8 0), (u8 0), (u8 0), (Vi 0), Vf, (Vi 0)]) [(Vi 0), (Vi 0), (u8 0), (u8 0), (u8 0), (u8 0), (u8 0), (u8 0), (u8 0), (u8 0), (u8 0), (u8 0), (u8 0), (u8 0), (u8 0), (u8 0), (u8 0), (u8 0), (Vi 0), (u8 0), (u8 0), (u8 0), (u8 0), (Vi 0), Vf, (Vi 0)] rfl (v := (.agg zBc.toArray)) rfl rfl sz36 hb63 rfl rfl rfl) ?_
  rintro _ w66 ⟨hb67, hk68⟩
  have hz70 := (nl (nl (nl (nl hz44 hk38.size) hk42.size) hk50.size) (Nx.kp hn58).size)
  have ka69 := (Kp.fresh ka65 hk68 fun _ e => nl (nl hz70 (Nat.le_refl _)) (Nat.le_of_eq e.symm))
  refine s_y (y_assign (v := (Vi 5)) rfl) rfl ?_
  refine s_nil (hK48 _ _ (genC [(1, (Vp g11.tb 0)), (3, (Vp w29.heap.size 0)), (4, (Vi 0)), (6, (Vi 5))] ⟨g45, g46, g47, rfl, trivial⟩ ?_))
  clear hK48; rintro E ⟨g71, g72, g73, g74, -⟩
  refine seq fun K75 hK75 => ?_
  refine reg ?_
  refine s_y (y_move (v := (Vp g11.tb 0)) g71) rfl ?_
  refine s_e (e_call ca15 (args := [(.int .u8 1), (Vi 1024)]) rfl (outT_spec 1 1024 _)) rfl ?_
  rintro _ w76 ⟨rfl, hk77⟩
  have ka78 := (Kp.then0 ka69 hk77)
  have hni79 : w55.heap.size ∉ bfp g11 s56 := (fun e => Nat.lt_irrefl _ (nt (Tab.lt (Nx.tab hn58) _ e) (nl (Nat.le_refl _) (Nat.le_refl _))))
  have hf80 := (Tab.k0 (Tab.kp (Tab.k0 (Nx.tab hn58) hk64) hk68 (fun b hb => (fun e => hni79 (e ▸ hb))) (Nat.ne_of_lt (nt (hf61.lt) (Nat.le_refl _)))) hk77)
  refine s_e (e_call ca41 (args := [(Vp g11.tb 0), (Vi 17), (.agg #[u8 1, u8 0, u8 0, u8 1, .int .i64 1024])]) rfl (out_x hf80 17 ⟨⟨1, 0, 0, 1⟩, 1024⟩ (by decide) (by decide))) rfl ?_
  rintro v81 w82 ⟨hv84, hk83⟩
  rw [wk_3] at hv84; subst hv84
  have ka85 := (Kp.then0 ka78 hk83)
  refine s_y (y_move (v := (.tuple #[(.agg #[.int .i64 1, .int .i64 17, u8 32, u8 1, u8 0, u8 0, u8 0, u8 0, u8 0, u8 0, u8 0, u8 0, u8 0, u8 0, u8 0, u8 0, u8 0, u8 1, .int .i64 5000, u8 1, u8 0, u8 0, u8 1, .int .i64 1024, .bool false, .int .i64 0]), Vt])) rfl) rfl ?_
  refine s_y (y_ext rfl (v := (.agg #[.int .i64 1, .int .i64 17, u8 32, u8 1, u8 0, u8 0, u8 0, u8 0, u8 0, u8 0, u8 0, u8 0, u8 0, u8 0, u8 0, u8 0, u8 0, u8 1, .int .i64 5000, u8 1, u8 0, u8 0, u8 1, .int .i64 1024, .bool false, .int .i64 0])) rfl) rfl ?_
  refine s_y (y_ext rfl (v := Vt) rfl) rfl ?_
  refine s_e (e_alloc ze36) rfl ?_
  rintro _ w86 ⟨rfl, hb87, hk88⟩
  have ka89 := (Kp.then0 ka85 hk88)
  refine s_e0 (e_storeV (cs' := #[(Vi 1), (Vi 17), (u8 32), (u8 1), (u8 0), (u8 0), (u8 0), (u8 0), (u8 0), (u8 0), (u8 0), (u8 0), (u8 0), (u8 0), (u8 0), (u8 0), (u8 0), (u8 1), (Vi 5000), (u8 1), (u8 0), (u8 0), (u8 1), (Vi 1024), Vf, (Vi 0)]) [(Vi 1), (Vi 17), (u8 32), (u8 1), (u8 0), (u8 0), (u8 0), (u8 0), (u8 0), (u8 0), (u8 0), (u8 0), (u8 0), (u8 0), (u8 0), (u8 0), (u8 0), (u8 1), (Vi 5000), (u8 1), (u8 0), (u8 0), (u8 1), (Vi 1024), Vf, (Vi 0)] rfl (v := (.agg #[.int .i64 1, .int .i64 17, u8 32, u8 1, u8 0, u8 0, u8 0, u8 0, u8 0, u8 0, u8 0, u8 0, u8 0, u8 0, u8 0, u8 0, u8 0, u8 1, .int .i64 5000, u8 1, u8 0, u8 0, u8 1, .int .i64 1024, .bool false, .int .i64 0])) rfl rfl sz36 hb87 rfl rfl rfl) ?_
  rintro _ w90 ⟨hb91, hk92⟩
  have hz94 := (nl (nl (nl (nl hz70 hk64.size) hk68.size) hk77.size) hk83.size)
  have ka93 := (Kp.fresh ka89 hk92 fun _ e => nl (nl hz94 (Nat.le_refl _)) (Nat.le_of_eq e.symm))
  refine s_y (y_assign (v := Vt) rfl) rfl ?_
  refine s_nil (hK75 _ _ (genC [(1, (Vp g11.tb 0)), (3, (Vp w29.heap.size 0)), (4, (Vi 0)), (6, (Vi 5)), (7, (Vp w82.heap.size 0)), (8, Vt)] ⟨g71, g72, g73, g74, rfl, rfl, trivial⟩ ?_))
  clear hK75; rintro E ⟨g95, g96, g97, g98, g99, g100, -⟩
  refine seq fun K101 hK101 => ?_
  refine regD (fun _ => False) (.take 0 (.take 1 (.take 2 (.take 3 (.take 4 (.take 5 (.take 6 (.take 7 (.take 8 (.take 9 (.take 10 (.take 11 (.take 12 (.take 13 (.one 14 (.take 15 (.take 16 (.take 17 (.take 18 (.take 19 (.take 20 (.take 21 (.take 22 (.take 23 (.take 24 (.take 25 (.take 26 (.one 27 (.take 28 (.take 29 (.take 30 .done))))))))))))))))))))))))))))))) mixed (by kernel_rfl) fun w102 hh103 hk104 => ?_
  have ka105 := (Kp.then0 ka93 hk104)
  refine o_y rfl (y_move (v := (Vi 0)) g97) ?_
  refine o_y rfl (y_eql rfl rfl) ?_
  refine o_y rfl (y_move (v := Vt) rfl) ?_
  refine o_gy rfl (.yes rfl rfl) (y_move (v := (Vi 5)) g98) ?_
  refine o_gy rfl (.yes rfl rfl) (y_eql rfl rfl) ?_
  refine o_y rfl (y_pick_t rfl (v := Vt) rfl) ?_
  refine o_y rfl (y_move (v := Vt) rfl) ?_
  refine o_gy rfl (.yes rfl rfl) (y_fld fo36_0 g96) ?_
  have hz106 := (nl (nl (nl (nl (nl hk50.size (Nx.kp hn58).size) hk64.size) hk68.size) hk77.size) hk83.size)
  refine o_gy rfl (.yes rfl rfl) (y_load (v := (Vi 1)) rfl (rd_sc sc3 (On.kp (hk104.get0 (hk92.get (hk88.get0 (hk83.get0 (hk77.get0 (hk68.get (hk64.get0 ((Nx.kp hn58).get (hk50.get0 hb41) hni52)) (Nat.ne_of_lt (nt (nt (lt_of_get hb41) (nl hk50.size (Nx.kp hn58).size)) (Nat.le_refl _))))))) (Nat.ne_of_lt (nt (nt (lt_of_get hb41) hz106) (Nat.le_refl _))))) id) rfl)) ?_
  refine o_gy rfl (.yes rfl rfl) (y_eql rfl rfl) ?_
  refine o_y rfl (y_pick_t rfl (v := Vt) rfl) ?_
  refine o_y rfl (y_move (v := Vt) rfl) ?_
  refine o_gy rfl (.yes rfl rfl) (y_fld fo36_3 g96) ?_
  refine o_gy rfl (.yes rfl rfl) (y_load (v := (t4 (⟨(⟨1, 0, 0, 1⟩ : V4), 1024⟩ : T4))) rfl (rd_agg (vs := [(u8 1), (u8 0), (u8 0), (u8 1), (Vi 1024)]) ag34 (On.kp (hk104.get0 (hk92.get (hk88.get0 (hk83.get0 (hk77.get0 (hk68.get (hk64.get0 ((Nx.kp hn58).get (hk50.get0 hb41) hni52)) (Nat.ne_of_lt (nt (nt (lt_of_get hb41) (nl hk50.size (Nx.kp hn58).size)) (Nat.le_refl _))))))) (Nat.ne_of_lt (nt (nt (lt_of_get hb41) hz106) (Nat.le_refl _))))) id) (by kernel_rfl) rfl)) ?_
  refine o_one ?_
  refine c_ge rfl (.yes rfl rfl) (e_call ca15 (args := [(.int .u8 1), (Vi 1024)]) rfl (outT_spec 1 1024 _)) ?_
  rintro _ w107 ⟨rfl, hk108⟩
  have ka109 := (Kp.then0 ka105 hk108)
  have ks110 : Kp (fun _ => False) w102 w107 := (Kp.then0 (Kp.refl _ _) hk108)
  refine ⟨ks110, ?_⟩
  refine o_gy rfl (.yes rfl rfl) (y_eqT (eq34 9997) eg34 (x := (⟨(⟨1, 0, 0, 1⟩ : V4), 1024⟩ : T4)) (y := (⟨(⟨1, 0, 0, 1⟩ : V4), 1024⟩ : T4)) rfl rfl ⟨_, rfl⟩ ⟨_, rfl⟩) ?_
  refine o_y rfl (y_pick_t rfl (v := (.bool (decide ((⟨(⟨1, 0, 0, 1⟩ : V4), 1024⟩ : T4) = (⟨(⟨1, 0, 0, 1⟩ : V4), 1024⟩ : T4))))) rfl) ?_
  refine o_y rfl (y_move (v := (.bool (decide ((⟨(⟨1, 0, 0, 1⟩ : V4), 1024⟩ : T4) = (⟨(⟨1, 0, 0, 1⟩ : V4), 1024⟩ : T4))))) rfl) ?_
  by_cases c111 : (⟨(⟨1, 0, 0, 1⟩ : V4), 1024⟩ : T4) = (⟨(⟨1, 0, 0, 1⟩ : V4), 1024⟩ : T4)
  · refine o_gy rfl (.yes rfl (congrArg Value.bool (decide_eq_true c111))) (y_move (v := Vt) g100) ?_
    refine o_y rfl (y_pick_t (congrArg Value.bool (decide_eq_true c111)) (v := Vt) rfl) ?_
    refine o_y rfl (y_move (v := Vt) rfl) ?_
    refine o_gy rfl (.yes rfl rfl) (y_load (v := (bv (⟨1, 17, (⟨(⟨32, 1, 0, 0, 0, 0, 0, 0, 0, 0, 0, 0, 0, 0, 0, 1⟩ : V6), 5000⟩ : T6), (⟨(⟨1, 0, 0, 1⟩ : V4), 1024⟩ : T4), false, 0⟩ : Binding))) g99 (rd_agg (vs := [(Vi 1), (Vi 17), (u8 32), (u8 1), (u8 0), (u8 0), (u8 0), (u8 0), (u8 0), (u8 0), (u8 0), (u8 0), (u8 0), (u8 0), (u8 0), (u8 0), (u8 0), (u8 1), (Vi 5000), (u8 1), (u8 0), (u8 0), (u8 1), (Vi 1024), Vf, (Vi 0)]) ag36 (On.kp (hk104.get0 hb91) id) (by kernel_rfl) rfl)) ?_
    refine o_gy rfl (.yes rfl rfl) (y_load (v := (bv (⟨1, 17, (⟨(⟨32, 1, 0, 0, 0, 0, 0, 0, 0, 0, 0, 0, 0, 0, 0, 1⟩ : V6), 5000⟩ : T6), (⟨(⟨1, 0, 0, 1⟩ : V4), 1024⟩ : T4), false, 0⟩ : Binding))) g96 (rd_agg (vs := [(Vi 1), (Vi 17), (u8 32), (u8 1), (u8 0), (u8 0), (u8 0), (u8 0), (u8 0), (u8 0), (u8 0), (u8 0), (u8 0), (u8 0), (u8 0), (u8 0), (u8 0), (u8 1), (Vi 5000), (u8 1), (u8 0), (u8 0), (u8 1), (Vi 1024), Vf, (Vi 0)]) ag36 (On.kp (hk104.get0 (hk92.get (hk88.get0 (hk83.get0 (hk77.get0 (hk68.get (hk64.get0 ((Nx.kp hn58).get (hk50.get0 hb41) hni52)) (Nat.ne_of_lt (nt (nt (lt_of_get hb41) (nl hk50.size (Nx.kp hn58).size)) (Nat.le_refl _))))))) (Nat.ne_of_lt (nt (nt (lt_of_get hb41) hz106) (Nat.le_refl _))))) id) (by kernel_rfl) rfl)) ?_
    refine o_gy rfl (.yes rfl rfl) (y_eqT (eq36 9996) eg36 (x := (⟨1, 17, (⟨(⟨32, 1, 0, 0, 0, 0, 0, 0, 0, 0, 0, 0, 0, 0, 0, 1⟩ : V6), 5000⟩ : T6), (⟨(⟨1, 0, 0, 1⟩ : V4), 1024⟩ : T4), false, 0⟩ : Binding)) (y := (⟨1, 17, (⟨(⟨32, 1, 0, 0, 0, 0, 0, 0, 0, 0, 0, 0, 0, 0, 0, 1⟩ : V6), 5000⟩ : T6), (⟨(⟨1, 0, 0, 1⟩ : V4), 1024⟩ : T4), false, 0⟩ : Binding)) rfl rfl ⟨_, rfl⟩ ⟨_, rfl⟩) ?_
    refine o_y rfl (y_pick_t rfl (v := (.bool (decide ((⟨1, 17, (⟨(⟨32, 1, 0, 0, 0, 0, 0, 0, 0, 0, 0, 0, 0, 0, 0, 1⟩ : V6), 5000⟩ : T6), (⟨(⟨1, 0, 0, 1⟩ : V4), 1024⟩ : T4), false, 0⟩ : Binding) = (⟨1, 17, (⟨(⟨32, 1, 0, 0, 0, 0, 0, 0, 0, 0, 0, 0, 0, 0, 0, 1⟩ : V6), 5000⟩ : T6), (⟨(⟨1, 0, 0, 1⟩ : V4), 1024⟩ : T4), false, 0⟩ : Binding))))) rfl) ?_
    refine o_y rfl (y_move (v := (.bool (decide ((⟨1, 17, (⟨(⟨32, 1, 0, 0, 0, 0, 0, 0, 0, 0, 0, 0, 0, 0, 0, 1⟩ : V6), 5000⟩ : T6), (⟨(⟨1, 0, 0, 1⟩ : V4), 1024⟩ : T4), false, 0⟩ : Binding) = (⟨1, 17, (⟨(⟨32, 1, 0, 0, 0, 0, 0, 0, 0, 0, 0, 0, 0, 0, 0, 1⟩ : V6), 5000⟩ : T6), (⟨(⟨1, 0, 0, 1⟩ : V4), 1024⟩ : T4), false, 0⟩ : Binding))))) rfl) ?_
    by_cases c112 : (⟨1, 17, (⟨(⟨32, 1, 0, 0, 0, 0, 0, 0, 0, 0, 0, 0, 0, 0, 0, 1⟩ : V6), 5000⟩ : T6), (⟨(⟨1, 0, 0, 1⟩ : V4), 1024⟩ : T4), false, 0⟩ : Binding) = (⟨1, 17, (⟨(⟨32, 1, 0, 0, 0, 0, 0, 0, 0, 0, 0, 0, 0, 0, 0, 1⟩ : V6), 5000⟩ : T6), (⟨(⟨1, 0, 0, 1⟩ : V4), 1024⟩ : T4), false, 0⟩ : Binding)
    · refine o_gy rfl (.yes rfl (congrArg Value.bool (decide_eq_true c112))) (y_move (v := (Vp g11.tb 0)) g95) ?_
      refine o_one ?_
      have hz113 := (nl (nl (nl hk64.size hk68.size) hk77.size) hk83.size)
      have hni114 : w82.heap.size ∉ bfp g11 s56 := (fun e => Nat.lt_irrefl _ (nt (Tab.lt (Nx.tab hn58) _ e) (nl hz113 (Nat.le_refl _))))
      have hf115 := (Tab.k0 (Tab.k0 (Tab.kp (Tab.k0 (Tab.k0 hf80 hk83) hk88) hk92 (fun b hb => (fun e => hni114 (e ▸ hb))) (Nat.ne_of_lt (nt (nt (hf61.lt) hz113) (Nat.le_refl _)))) hk104) hk108)
      refine c_ge rfl (.yes rfl (congrArg Value.bool (decide_eq_true c112))) (e_call ca18 (args := [(Vp g11.tb 0)]) rfl (len_x hf115)) ?_
      rintro _ w116 ⟨rfl, hk117⟩
      have ka118 := (Kp.then0 ka109 hk117)
      have ks119 := (Kp.then0 ks110 hk117)
      refine ⟨ks119, ?_⟩
      refine o_gy rfl (.yes rfl (congrArg Value.bool (decide_eq_true c112))) (y_eql rfl rfl) ?_
      refine o_y rfl (y_pick_t (congrArg Value.bool (decide_eq_true c112)) (v := Vt) rfl) ?_
      refine o_y rfl (y_assign (v := Vt) rfl) ?_
      refine o_done (hK101 _ _ (genC [(0, Vt)] ⟨rfl, trivial⟩ ?_))
      clear hK101; rintro E ⟨g120, -⟩
      refine ret (hret _ _ [Vt] ⟨g120, trivial⟩ ?_)
      exact ⟨rfl, ka118⟩
    · exact absurd rfl c112
  · exact absurd rfl c111

def bkG : Gp := ⟨[⟨1, 0, 0, 1⟩], 1024, 1027, 3, ⟨1, 0, 0, 1⟩⟩
def bkA1 : Ab := ⟨1, [(⟨1, 17, ⟨⟨32, 1, 0, 0, 0, 0, 0, 0, 0, 0, 0, 0, 0, 0, 0, 1⟩, 5000⟩, ⟨⟨1, 0, 0, 1⟩, 1024⟩, false, 0⟩ : Binding)], setH ab0.h 2 [(⟨⟨1, 0, 0, 1⟩, 1024⟩, false)]⟩
theorem bk_1 : addA bkG ab0 17 ⟨⟨32, 1, 0, 0, 0, 0, 0, 0, 0, 0, 0, 0, 0, 0, 0, 1⟩, 5000⟩ = ((⟨1, 17, ⟨⟨32, 1, 0, 0, 0, 0, 0, 0, 0, 0, 0, 0, 0, 0, 0, 1⟩, 5000⟩, ⟨⟨1, 0, 0, 1⟩, 1024⟩, false, 0⟩ : Binding), 0, bkA1) := by kernel_rfl
theorem bk_2 : addA bkG bkA1 17 ⟨⟨32, 1, 0, 0, 0, 0, 0, 0, 0, 0, 0, 0, 0, 0, 0, 1⟩, 5000⟩ = (zeroB, 5, bkA1) := by kernel_rfl
def bkA3 : Ab := ⟨2, [(⟨1, 17, ⟨⟨32, 1, 0, 0, 0, 0, 0, 0, 0, 0, 0, 0, 0, 0, 0, 1⟩, 5000⟩, ⟨⟨1, 0, 0, 1⟩, 1024⟩, false, 0⟩ : Binding), (⟨2, 6, ⟨⟨32, 1, 0, 0, 0, 0, 0, 0, 0, 0, 0, 0, 0, 0, 0, 1⟩, 5001⟩, ⟨⟨1, 0, 0, 1⟩, 1025⟩, false, 0⟩ : Binding)], setH bkA1.h 1 [(⟨⟨1, 0, 0, 1⟩, 1025⟩, false)]⟩
theorem bk_3 : addA bkG bkA1 6 ⟨⟨32, 1, 0, 0, 0, 0, 0, 0, 0, 0, 0, 0, 0, 0, 0, 1⟩, 5001⟩ = ((⟨2, 6, ⟨⟨32, 1, 0, 0, 0, 0, 0, 0, 0, 0, 0, 0, 0, 0, 0, 1⟩, 5001⟩, ⟨⟨1, 0, 0, 1⟩, 1025⟩, false, 0⟩ : Binding), 0, bkA3) := by kernel_rfl
theorem bk_4 : addA bkG bkA3 17 ⟨⟨32, 1, 0, 0, 0, 0, 0, 0, 0, 0, 0, 0, 0, 0, 0, 1⟩, 80⟩ = (zeroB, 13, bkA3) := by kernel_rfl
theorem bk_5 : addA bkG bkA3 2 ⟨⟨32, 1, 0, 0, 0, 0, 0, 0, 0, 0, 0, 0, 0, 0, 0, 1⟩, 80⟩ = (zeroB, 10, bkA3) := by kernel_rfl
theorem bk_6 : addA bkG bkA3 17 ⟨⟨32, 1, 0, 0, 0, 0, 0, 0, 0, 0, 0, 0, 0, 0, 0, 1⟩, 65536⟩ = (zeroB, 1, bkA3) := by kernel_rfl
def bkA7 : Ab := ⟨2, [(⟨1, 17, ⟨⟨32, 1, 0, 0, 0, 0, 0, 0, 0, 0, 0, 0, 0, 0, 0, 1⟩, 5000⟩, ⟨⟨1, 0, 0, 1⟩, 1024⟩, false, 1⟩ : Binding), (⟨2, 6, ⟨⟨32, 1, 0, 0, 0, 0, 0, 0, 0, 0, 0, 0, 0, 0, 0, 1⟩, 5001⟩, ⟨⟨1, 0, 0, 1⟩, 1025⟩, false, 0⟩ : Binding)], bkA3.h⟩
theorem bk_7 : holdA bkA3 1 = (0, bkA7) := by kernel_rfl
def bkA8 : Ab := ⟨2, [(⟨2, 6, ⟨⟨32, 1, 0, 0, 0, 0, 0, 0, 0, 0, 0, 0, 0, 0, 0, 1⟩, 5001⟩, ⟨⟨1, 0, 0, 1⟩, 1025⟩, false, 0⟩ : Binding)], setH bkA7.h 2 []⟩
theorem bk_8 : dropA bkA7 1 = (true, 0, bkA8) := by kernel_rfl
theorem bk_9 : dropA bkA8 1 = (false, 4, bkA8) := by kernel_rfl
theorem bk_10 : dropA bkA8 2 = (false, 11, bkA8) := by kernel_rfl
def bkA11 : Ab := ⟨3, [(⟨2, 6, ⟨⟨32, 1, 0, 0, 0, 0, 0, 0, 0, 0, 0, 0, 0, 0, 0, 1⟩, 5001⟩, ⟨⟨1, 0, 0, 1⟩, 1025⟩, false, 0⟩ : Binding), (⟨3, 17, ⟨⟨32, 1, 0, 0, 0, 0, 0, 0, 0, 0, 0, 0, 0, 0, 0, 1⟩, 80⟩, ⟨⟨1, 0, 0, 1⟩, 80⟩, true, 0⟩ : Binding)], setH bkA8.h 2 [(⟨⟨1, 0, 0, 1⟩, 80⟩, true)]⟩
theorem bk_11 : bindA bkG bkA8 17 ⟨⟨32, 1, 0, 0, 0, 0, 0, 0, 0, 0, 0, 0, 0, 0, 0, 1⟩, 80⟩ ⟨⟨1, 0, 0, 1⟩, 80⟩ = ((⟨3, 17, ⟨⟨32, 1, 0, 0, 0, 0, 0, 0, 0, 0, 0, 0, 0, 0, 0, 1⟩, 80⟩, ⟨⟨1, 0, 0, 1⟩, 80⟩, true, 0⟩ : Binding), 0, bkA11) := by kernel_rfl
theorem bk_12 : bindA bkG bkA11 17 ⟨⟨32, 1, 0, 0, 0, 0, 0, 0, 0, 0, 0, 0, 0, 0, 0, 2⟩, 80⟩ ⟨⟨1, 0, 0, 1⟩, 80⟩ = (zeroB, 5, bkA11) := by kernel_rfl
theorem bk_13 : bindA bkG bkA11 17 ⟨⟨32, 1, 0, 0, 0, 0, 0, 0, 0, 0, 0, 0, 0, 0, 0, 2⟩, 80⟩ ⟨⟨1, 0, 0, 2⟩, 80⟩ = (zeroB, 1, bkA11) := by kernel_rfl
theorem bk_14 : bindA bkG bkA11 6 ⟨⟨32, 1, 0, 0, 0, 0, 0, 0, 0, 0, 0, 0, 0, 0, 0, 2⟩, 80⟩ ⟨⟨1, 0, 0, 1⟩, 1025⟩ = (zeroB, 5, bkA11) := by kernel_rfl
def bkA15 : Ab := ⟨4, [(⟨2, 6, ⟨⟨32, 1, 0, 0, 0, 0, 0, 0, 0, 0, 0, 0, 0, 0, 0, 1⟩, 5001⟩, ⟨⟨1, 0, 0, 1⟩, 1025⟩, false, 0⟩ : Binding), (⟨3, 17, ⟨⟨32, 1, 0, 0, 0, 0, 0, 0, 0, 0, 0, 0, 0, 0, 0, 1⟩, 80⟩, ⟨⟨1, 0, 0, 1⟩, 80⟩, true, 0⟩ : Binding), (⟨4, 1, ⟨⟨32, 1, 0, 0, 0, 0, 0, 0, 0, 0, 0, 0, 0, 0, 0, 2⟩, 7⟩, ⟨⟨1, 0, 0, 1⟩, 1024⟩, false, 0⟩ : Binding)], setH bkA11.h 0 [(⟨⟨1, 0, 0, 1⟩, 1024⟩, false)]⟩
theorem bk_15 : addA bkG bkA11 1 ⟨⟨32, 1, 0, 0, 0, 0, 0, 0, 0, 0, 0, 0, 0, 0, 0, 2⟩, 7⟩ = ((⟨4, 1, ⟨⟨32, 1, 0, 0, 0, 0, 0, 0, 0, 0, 0, 0, 0, 0, 0, 2⟩, 7⟩, ⟨⟨1, 0, 0, 1⟩, 1024⟩, false, 0⟩ : Binding), 0, bkA15) := by kernel_rfl
theorem bk_16 : addA bkG bkA15 1 ⟨⟨32, 1, 0, 0, 0, 0, 0, 0, 0, 0, 0, 0, 0, 0, 0, 3⟩, 7⟩ = (zeroB, 6, bkA15) := by kernel_rfl
def bkA17 : Ab := ⟨4, [(⟨2, 6, ⟨⟨32, 1, 0, 0, 0, 0, 0, 0, 0, 0, 0, 0, 0, 0, 0, 1⟩, 5001⟩, ⟨⟨1, 0, 0, 1⟩, 1025⟩, false, 0⟩ : Binding), (⟨4, 1, ⟨⟨32, 1, 0, 0, 0, 0, 0, 0, 0, 0, 0, 0, 0, 0, 0, 2⟩, 7⟩, ⟨⟨1, 0, 0, 1⟩, 1024⟩, false, 0⟩ : Binding)], setH bkA15.h 2 []⟩
theorem bk_17 : unbindA bkA15 17 ⟨⟨32, 1, 0, 0, 0, 0, 0, 0, 0, 0, 0, 0, 0, 0, 0, 1⟩, 80⟩ = ((⟨3, 17, ⟨⟨32, 1, 0, 0, 0, 0, 0, 0, 0, 0, 0, 0, 0, 0, 0, 1⟩, 80⟩, ⟨⟨1, 0, 0, 1⟩, 80⟩, true, 0⟩ : Binding), 0, bkA17) := by kernel_rfl
theorem bk_18 : unbindA bkA17 6 ⟨⟨32, 1, 0, 0, 0, 0, 0, 0, 0, 0, 0, 0, 0, 0, 0, 1⟩, 5001⟩ = (zeroB, 4, bkA17) := by kernel_rfl
theorem bk_19 : freeA bkG bkA17 17 = 4 := by kernel_rfl
theorem bk_20 : freeA bkG bkA17 6 = 3 := by kernel_rfl
theorem bk_21 : freeA bkG bkA17 9 = 0 := by kernel_rfl
theorem bibKnown_spec {w : World} (hT : Tb w) : Rets Tryd.prog 3 #[] w fun v w' => v = .bool true ∧ K0 w w' := by
  refine enter Tryd.func3 rfl Tryd.ntmps3 rfl fun Q hret hend E hE => ?_
  clear hE
  refine seq fun K1 hK1 => ?_
  refine reg ?_
  refine s_y (y_assign (v := Vf) rfl) rfl ?_
  refine s_nil (hK1 _ _ (genC [] trivial ?_))
  clear hK1; rintro E -
  refine seq fun K2 hK2 => ?_
  refine reg ?_
  refine s_y (y_build (vs := [(0, (.int .u8 1)), (1, U0), (2, U0), (3, (.int .u8 1))]) (v := (.agg #[.int .u8 1, U0, U0, .int .u8 1])) rfl (fun _ => by kernel_rfl)) rfl ?_
  refine s_e (e_buildSlice (cs := #[(u8 1), (u8 0), (u8 0), (u8 1)]) (e := 27) (vs := [(0, (.agg #[.int .u8 1, U0, U0, .int .u8 1]))]) rfl (fun _ => by kernel_rfl)) rfl ?_
  rintro _ w3 ⟨rfl, hb4, hk5⟩
  have ka6 : Kp (fun _ => False) w w3 := (Kp.then0 (Kp.refl _ _) hk5)
  have hel7 : Elts V4.cs 4 w3 w.heap.size 0 [⟨1, 0, 0, 1⟩] := Own.all (T := 27) ⟨hb4, fun _ => rfl⟩
  have hf8 := (hT.kp hk5 id)
  refine s_e (e_call ca12 (args := [(.slice (some ⟨w.heap.size, 0, none⟩) 1 1), (Vi 1024), (Vi 1027), (Vi 3)]) rfl (bibnew_spec (l := [⟨1, 0, 0, 1⟩]) rfl (by decide) (by decide) hel7 (by decide) hf8)) rfl ?_
  rintro _ w9 ⟨⟨hx12, rfl⟩ | ⟨hx12, g11, rfl, hn13⟩, hk10⟩
  · exact absurd ⟨by decide, ⟨by decide, by decide, by decide, by decide, by decide, by decide, by decide⟩⟩ hx12
  have hfig11 : g11.first = ⟨1, 0, 0, 1⟩ := (Option.some.inj hn13.first).symm
  have ht14 : Tab bkG g11 0 w3.heap.size ab0 ⟨0, [], fun _ => []⟩ w9 := by have h9 := NewBib.tab hn13 (by decide); rw [hfig11] at h9; exact h9
  have ka15 := (Kp.then0 ka6 hk10)
  refine s_y (y_move (v := (.tuple #[(Vp g11.tb 0), (Vi 0)])) rfl) rfl ?_
  refine s_y (y_ext rfl (v := (Vp g11.tb 0)) rfl) rfl ?_
  refine s_y (y_ext rfl (v := (Vi 0)) rfl) rfl ?_
  refine s_y (y_assign (v := (Vp g11.tb 0)) rfl) rfl ?_
  refine s_y (y_assign (v := (Vi 0)) rfl) rfl ?_
  refine s_nil (hK2 _ _ (genC [(1, (Vp g11.tb 0)), (2, (Vi 0))] ⟨rfl, rfl, trivial⟩ ?_))
  clear hK2; rintro E ⟨g16, g17, -⟩
  refine seq fun K18 hK18 => ?_
  refine seq fun K19 hK19 => ?_
  refine reg ?_
  refine s_y (y_move (v := (Vi 0)) g17) rfl ?_
  refine s_y (y_neq rfl rfl) rfl ?_
  refine s_y (y_move (v := Vf) rfl) rfl ?_
  refine s_gy (.yes rfl rfl) (y_move (v := (Vp g11.tb 0)) g16) rfl ?_
  refine s_gy (.yes rfl rfl) (y_peq Tryd.underlying22 rfl rfl) rfl ?_
  refine s_y (y_pick_f rfl (v := Vf) rfl) rfl ?_
  refine s_nil (hK19 _ _ (genC [(1, (Vp g11.tb 0)), (52, Vf)] ⟨g16, rfl, trivial⟩ ?_))
  clear hK19; rintro E ⟨g20, g21, -⟩
  refine cond_f g21 ?_
  refine skip (hK18 _ _ (genC [(1, (Vp g11.tb 0))] ⟨g20, trivial⟩ ?_))
  clear hK18; rintro E ⟨g22, -⟩
  refine seq fun K23 hK23 => ?_
  refine reg ?_
  refine s_y (y_move (v := (Vp g11.tb 0)) g22) rfl ?_
  refine s_e (e_call ca14 (args := [(.int .u8 1), (Vi 5000)]) rfl (inT_spec 1 5000 _)) rfl ?_
  rintro _ w24 ⟨rfl, hk25⟩
  have ka26 := (Kp.then0 ka15 hk25)
  have hf27 := (Tab.k0 ht14 hk25)
  refine s_e (e_call ca13 (args := [(Vp g11.tb 0), (Vi 17), (.agg #[u8 32, u8 1, u8 0, u8 0, u8 0, u8 0, u8 0, u8 0, u8 0, u8 0, u8 0, u8 0, u8 0, u8 0, u8 0, u8 1, .int .i64 5000])]) rfl (add_x hf27 (by decide) 17 (by decide) ⟨⟨32, 1, 0, 0, 0, 0, 0, 0, 0, 0, 0, 0, 0, 0, 0, 1⟩, 5000⟩ (by decide))) rfl ?_
  rintro v28 w29 ⟨s30, hv31, hn32⟩
  rw [bk_1] at hv31 hn32; subst hv31
  have ka33 := (Kp.fresh ka26 (Nx.kp hn32) fun _ e => nl hk5.size (Tab.ge ht14 _ e))
  have hni34 : 0 ∉ bfp g11 ⟨0, [], fun _ => []⟩ := (Tab.tbn ht14)
  have hf35 := (((hf8.kp hk10 id).kp hk25 id).kp (Nx.kp hn32) hni34)
  refine s_y (y_move (v := (.tuple #[(.agg #[.int .i64 1, .int .i64 17, u8 32, u8 1, u8 0, u8 0, u8 0, u8 0, u8 0, u8 0, u8 0, u8 0, u8 0, u8 0, u8 0, u8 0, u8 0, u8 1, .int .i64 5000, u8 1, u8 0, u8 0, u8 1, .int .i64 1024, .bool false, .int .i64 0]), (Vi 0)])) rfl) rfl ?_
  refine s_y (y_ext rfl (v := (.agg #[.int .i64 1, .int .i64 17, u8 32, u8 1, u8 0, u8 0, u8 0, u8 0, u8 0, u8 0, u8 0, u8 0, u8 0, u8 0, u8 0, u8 0, u8 0, u8 1, .int .i64 5000, u8 1, u8 0, u8 0, u8 1, .int .i64 1024, .bool false, .int .i64 0])) rfl) rfl ?_
  refine s_y (y_ext rfl (v := (Vi 0)) rfl) rfl ?_
  refine s_e (e_alloc ze36) rfl ?_
  rintro _ w36 ⟨rfl, hb37, hk38⟩
  have ka39 := (Kp.then0 ka33 hk38)
  refine s_e0 (e_storeV (cs' := #[(Vi 1), (Vi 17), (u8 32), (u8 1), (u8 0), (u8 0), (u8 0), (u8 0), (u8 0), (u8 0), (u8 0), (u8 0), (u8 0), (u8 0), (u8 0), (u8 0), (u8 0), (u8 1), (Vi 5000), (u8 1), (u8 0), (u8 0), (u8 1), (Vi 1024), Vf, (Vi 0)]) [(Vi 1), (Vi 17), (u8 32), (u8 1), (u8 0), (u8 0), (u8 0), (u8 0), (u8 0), (u8 0), (u8 0), (u8 0), (u8 0), (u8 0), (u8 0), (u8 0), (u8 0), (u8 1), (Vi 5000), (u8 1), (u8 0), (u8 0), (u8 1), (Vi 1024), Vf, (Vi 0)] rfl (v := (.agg #[.int .i64 1, .int .i64 17, u8 32, u8 1, u8 0, u8 0, u8 0, u8 0, u8 0, u8 0, u8 0, u8 0, u8 0, u8 0, u8 0, u8 0, u8 0, u8 1, .int .i64 5000, u8 1, u8 0, u8 0, u8 1, .int .i64 1024, .bool false, .int .i64 0])) rfl rfl sz36 hb37 rfl rfl rfl) ?_
  rintro _ w40 ⟨hb41, hk42⟩
  have hz44 := (nl (nl (nl hk5.size hk10.size) hk25.size) (Nx.kp hn32).size)
  have ka43 := (Kp.fresh ka39 hk42 fun _ e => nl (nl hz44 (Nat.le_refl _)) (Nat.le_of_eq e.symm))
  refine s_y (y_assign (v := (Vi 0)) rfl) rfl ?_
  refine s_nil (hK23 _ _ (genC [(1, (Vp g11.tb 0)), (3, (Vp w29.heap.size 0)), (4, (Vi 0))] ⟨g22, rfl, rfl, trivial⟩ ?_))
  clear hK23; rintro E ⟨g45, g46, g47, -⟩
  refine seq fun K48 hK48 => ?_
  refine reg ?_
  refine s_y (y_move (v := (Vp g11.tb 0)) g45) rfl ?_
  refine s_e (e_call ca14 (args := [(.int .u8 1), (Vi 5000)]) rfl (inT_spec 1 5000 _)) rfl ?_
  rintro _ w49 ⟨rfl, hk50⟩
  have ka51 := (Kp.then0 ka43 hk50)
  have hni52 : w29.heap.size ∉ bfp g11 s30 := (fun e => Nat.lt_irrefl _ (nt (Tab.lt (Nx.tab hn32) _ e) (nl (Nat.le_refl _) (Nat.le_refl _))))
  have hf53 := (Tab.k0 (Tab.kp (Tab.k0 (Nx.tab hn32) hk38) hk42 (fun b hb => (fun e => hni52 (e ▸ hb))) (Nat.ne_of_lt (nt (hf35.lt) (Nat.le_refl _)))) hk50)
  refine s_e (e_call ca13 (args := [(Vp g11.tb 0), (Vi 17), (.agg #[u8 32, u8 1, u8 0, u8 0, u8 0, u8 0, u8 0, u8 0, u8 0, u8 0, u8 0, u8 0, u8 0, u8 0, u8 0, u8 1, .int .i64 5000])]) rfl (add_x hf53 (by decide) 17 (by decide) ⟨⟨32, 1, 0, 0, 0, 0, 0, 0, 0, 0, 0, 0, 0, 0, 0, 1⟩, 5000⟩ (by decide))) rfl ?_
  rintro v54 w55 ⟨s56, hv57, hn58⟩
  rw [bk_2] at hv57 hn58; subst hv57
  have ka59 := (Kp.fresh ka51 (Nx.kp hn58) fun _ e => nl hk5.size (Tab.ge (Nx.tab hn32) _ e))
  have hni60 : 0 ∉ bfp g11 s30 := (Tab.tbn (Nx.tab hn32))
  have hf61 := ((((hf35.kp hk38 id).kp hk42 (Nat.ne_of_lt (nt (hf35.lt) (Nat.le_refl _)))).kp hk50 id).kp (Nx.kp hn58) hni60)
  refine s_y (y_move (v := (.tuple #[(.agg zBc.toArray), (Vi 5)])) rfl) rfl ?_
  refine s_y (y_ext rfl (v := (.agg zBc.toArray)) rfl) rfl ?_
  refine s_y (y_ext rfl (v := (Vi 5)) rfl) rfl ?_
  refine s_e (e_alloc ze36) rfl ?_
  rintro _ w62 ⟨rfl, hb63, hk64⟩
  have ka65 := (Kp.then0 ka59 hk64)
  refine s_e0 (e_storeV (cs' := #[(Vi 0), (Vi 0), (u8 0), (u8 0), (u8 0), (u8 0), (u8 0), (u8 0), (u8 0), (u8 0), (u8 0), (u8 0), (u8 0), (u8 0), (u8 0), (u8 0), (u8 0), (u8 0), (Vi 0), (u8 0), (u8 0), (u8 0), (u8 0), (Vi 0), Vf, (Vi 0)]) [(Vi 0), (Vi 0), (u8 0), (u8 0), (u8 0), (u8 0), (u8 0), (u8 0), (u8 0), (u8 0), (u8 0), (u8 0), (u8 0), (u8 0), (u8 0), (u8 0), (u8 0), (u8 0), (Vi 0), (u8 0), (u8 0), (u8 0), (u8 0), (Vi 0), Vf, (Vi 0)] rfl (v := (.agg zBc.toArray)) rfl rfl sz36 hb63 rfl rfl rfl) ?_
  rintro _ w66 ⟨hb67, hk68⟩
  have hz70 := (nl (nl (nl (nl hz44 hk38.size) hk42.size) hk50.size) (Nx.kp hn58).size)
  have ka69 := (Kp.fresh ka65 hk68 fun _ e => nl (nl hz70 (Nat.le_refl _)) (Nat.le_of_eq e.symm))
  refine s_y (y_assign (v := (Vi 5)) rfl) rfl ?_
  refine s_nil (hK48 _ _ (genC [(1, (Vp g11.tb 0)), (3, (Vp w29.heap.size 0)), (4, (Vi 0)), (6, (Vi 5))] ⟨g45, g46, g47, rfl, trivial⟩ ?_))
  clear hK48; rintro E ⟨g71, g72, g73, g74, -⟩
  refine seq fun K75 hK75 => ?_
  refine reg ?_
  refine s_y (y_move (v := (Vp g11.tb 0)) g71) rfl ?_
  refine s_e (e_call ca14 (args := [(.int .u8 1), (Vi 5001)]) rfl (inT_spec 1 5001 _)) rfl ?_
  rintro _ w76 ⟨rfl, hk77⟩
  have ka78 := (Kp.then0 ka69 hk77)
  have hni79 : w55.heap.size ∉ bfp g11 s56 := (fun e => Nat.lt_irrefl _ (nt (Tab.lt (Nx.tab hn58) _ e) (nl (Nat.le_refl _) (Nat.le_refl _))))
  have hf80 := (Tab.k0 (Tab.kp (Tab.k0 (Nx.tab hn58) hk64) hk68 (fun b hb => (fun e => hni79 (e ▸ hb))) (Nat.ne_of_lt (nt (hf61.lt) (Nat.le_refl _)))) hk77)
  refine s_e (e_call ca13 (args := [(Vp g11.tb 0), (Vi 6), (.agg #[u8 32, u8 1, u8 0, u8 0, u8 0, u8 0, u8 0, u8 0, u8 0, u8 0, u8 0, u8 0, u8 0, u8 0, u8 0, u8 1, .int .i64 5001])]) rfl (add_x hf80 (by decide) 6 (by decide) ⟨⟨32, 1, 0, 0, 0, 0, 0, 0, 0, 0, 0, 0, 0, 0, 0, 1⟩, 5001⟩ (by decide))) rfl ?_
  rintro v81 w82 ⟨s83, hv84, hn85⟩
  rw [bk_3] at hv84 hn85; subst hv84
  have ka86 := (Kp.fresh ka78 (Nx.kp hn85) fun _ e => nl hk5.size (Tab.ge (Nx.tab hn58) _ e))
  have hni87 : 0 ∉ bfp g11 s56 := (Tab.tbn (Nx.tab hn58))
  have hf88 := ((((hf61.kp hk64 id).kp hk68 (Nat.ne_of_lt (nt (hf61.lt) (Nat.le_refl _)))).kp hk77 id).kp (Nx.kp hn85) hni87)
  refine s_y (y_move (v := (.tuple #[(.agg #[.int .i64 2, .int .i64 6, u8 32, u8 1, u8 0, u8 0, u8 0, u8 0, u8 0, u8 0, u8 0, u8 0, u8 0, u8 0, u8 0, u8 0, u8 0, u8 1, .int .i64 5001, u8 1, u8 0, u8 0, u8 1, .int .i64 1025, .bool false, .int .i64 0]), (Vi 0)])) rfl) rfl ?_
  refine s_y (y_ext rfl (v := (.agg #[.int .i64 2, .int .i64 6, u8 32, u8 1, u8 0, u8 0, u8 0, u8 0, u8 0, u8 0, u8 0, u8 0, u8 0, u8 0, u8 0, u8 0, u8 0, u8 1, .int .i64 5001, u8 1, u8 0, u8 0, u8 1, .int .i64 1025, .bool false, .int .i64 0])) rfl) rfl ?_
  refine s_y (y_ext rfl (v := (Vi 0)) rfl) rfl ?_
  refine s_e (e_alloc ze36) rfl ?_
  rintro _ w89 ⟨rfl, hb90, hk91⟩
  have ka92 := (Kp.then0 ka86 hk91)
  refine s_e0 (e_storeV (cs' := #[(Vi 2), (Vi 6), (u8 32), (u8 1), (u8 0), (u8 0), (u8 0), (u8 0), (u8 0), (u8 0), (u8 0), (u8 0), (u8 0), (u8 0), (u8 0), (u8 0), (u8 0), (u8 1), (Vi 5001), (u8 1), (u8 0), (u8 0), (u8 1), (Vi 1025), Vf, (Vi 0)]) [(Vi 2), (Vi 6), (u8 32), (u8 1), (u8 0), (u8 0), (u8 0), (u8 0), (u8 0), (u8 0), (u8 0), (u8 0), (u8 0), (u8 0), (u8 0), (u8 0), (u8 0), (u8 1), (Vi 5001), (u8 1), (u8 0), (u8 0), (u8 1), (Vi 1025), Vf, (Vi 0)] rfl (v := (.agg #[.int .i64 2, .int .i64 6, u8 32, u8 1, u8 0, u8 0, u8 0, u8 0, u8 0, u8 0, u8 0, u8 0, u8 0, u8 0, u8 0, u8 0, u8 0, u8 1, .int .i64 5001, u8 1, u8 0, u8 0, u8 1, .int .i64 1025, .bool false, .int .i64 0])) rfl rfl sz36 hb90 rfl rfl rfl) ?_
  rintro _ w93 ⟨hb94, hk95⟩
  have hz97 := (nl (nl (nl (nl hz70 hk64.size) hk68.size) hk77.size) (Nx.kp hn85).size)
  have ka96 := (Kp.fresh ka92 hk95 fun _ e => nl (nl hz97 (Nat.le_refl _)) (Nat.le_of_eq e.symm))
  refine s_y (y_assign (v := (Vi 0)) rfl) rfl ?_
  refine s_nil (hK75 _ _ (genC [(1, (Vp g11.tb 0)), (3, (Vp w29.heap.size 0)), (4, (Vi 0)), (6, (Vi 5)), (7, (Vp w82.heap.size 0)), (8, (Vi 0))] ⟨g71, g72, g73, g74, rfl, rfl, trivial⟩ ?_))
  clear hK75; rintro E ⟨g98, g99, g100, g101, g102, g103, -⟩
  refine seq fun K104 hK104 => ?_
  refine reg ?_
  refine s_y (y_move (v := (Vp g11.tb 0)) g98) rfl ?_
  refine s_e (e_call ca14 (args := [(.int .u8 1), (Vi 80)]) rfl (inT_spec 1 80 _)) rfl ?_
  rintro _ w105 ⟨rfl, hk106⟩
  have ka107 := (Kp.then0 ka96 hk106)
  have hni108 : w82.heap.size ∉ bfp g11 s83 := (fun e => Nat.lt_irrefl _ (nt (Tab.lt (Nx.tab hn85) _ e) (nl (Nat.le_refl _) (Nat.le_refl _))))
  have hf109 := (Tab.k0 (Tab.kp (Tab.k0 (Nx.tab hn85) hk91) hk95 (fun b hb => (fun e => hni108 (e ▸ hb))) (Nat.ne_of_lt (nt (hf88.lt) (Nat.le_refl _)))) hk106)
  refine s_e (e_call ca13 (args := [(Vp g11.tb 0), (Vi 17), (.agg #[u8 32, u8 1, u8 0, u8 0, u8 0, u8 0, u8 0, u8 0, u8 0, u8 0, u8 0, u8 0, u8 0, u8 0, u8 0, u8 1, .int .i64 80])]) rfl (add_x hf109 (by decide) 17 (by decide) ⟨⟨32, 1, 0, 0, 0, 0, 0, 0, 0, 0, 0, 0, 0, 0, 0, 1⟩, 80⟩ (by decide))) rfl ?_
  rintro v110 w111 ⟨s112, hv113, hn114⟩
  rw [bk_4] at hv113 hn114; subst hv113
  have ka115 := (Kp.fresh ka107 (Nx.kp hn114) fun _ e => nl hk5.size (Tab.ge (Nx.tab hn85) _ e))
  have hni116 : 0 ∉ bfp g11 s83 := (Tab.tbn (Nx.tab hn85))
  have hf117 := ((((hf88.kp hk91 id).kp hk95 (Nat.ne_of_lt (nt (hf88.lt) (Nat.le_refl _)))).kp hk106 id).kp (Nx.kp hn114) hni116)
  refine s_y (y_move (v := (.tuple #[(.agg zBc.toArray), (Vi 13)])) rfl) rfl ?_
  refine s_y (y_ext rfl (v := (.agg zBc.toArray)) rfl) rfl ?_
  refine s_y (y_ext rfl (v := (Vi 13)) rfl) rfl ?_
  refine s_e (e_alloc ze36) rfl ?_
  rintro _ w118 ⟨rfl, hb119, hk120⟩
  have ka121 := (Kp.then0 ka115 hk120)
  refine s_e0 (e_storeV (cs' := #[(Vi 0), (Vi 0), (u8 0), (u8 0), (u8 0), (u8 0), (u8 0), (u8 0), (u8 0), (u8 0), (u8 0), (u8 0), (u8 0), (u8 0), (u8 0), (u8 0), (u8 0), (u8 0), (Vi 0), (u8 0), (u8 0), (u8 0), (u8 0), (Vi 0), Vf, (Vi 0)]) [(Vi 0), (Vi 0), (u8 0), (u8 0), (u8 0), (u8 0), (u8 0), (u8 0), (u8 0), (u8 0), (u8 0), (u8 0), (u8 0), (u8 0), (u8 0), (u8 0), (u8 0), (u8 0), (Vi 0), (u8 0), (u8 0), (u8 0), (u8 0), (Vi 0), Vf, (Vi 0)] rfl (v := (.agg zBc.toArray)) rfl rfl sz36 hb119 rfl rfl rfl) ?_
  rintro _ w122 ⟨hb123, hk124⟩
  have hz126 := (nl (nl (nl (nl hz97 hk91.size) hk95.size) hk106.size) (Nx.kp hn114).size)
  have ka125 := (Kp.fresh ka121 hk124 fun _ e => nl (nl hz126 (Nat.le_refl _)) (Nat.le_of_eq e.symm))
  refine s_y (y_assign (v := (Vi 13)) rfl) rfl ?_
  refine s_nil (hK104 _ _ (genC [(1, (Vp g11.tb 0)), (3, (Vp w29.heap.size 0)), (4, (Vi 0)), (6, (Vi 5)), (7, (Vp w82.heap.size 0)), (8, (Vi 0)), (10, (Vi 13))] ⟨g98, g99, g100, g101, g102, g103, rfl, trivial⟩ ?_))
  clear hK104; rintro E ⟨g127, g128, g129, g130, g131, g132, g133, -⟩
  refine seq fun K134 hK134 => ?_
  refine reg ?_
  refine s_y (y_move (v := (Vp g11.tb 0)) g127) rfl ?_
  refine s_e (e_call ca14 (args := [(.int .u8 1), (Vi 80)]) rfl (inT_spec 1 80 _)) rfl ?_
  rintro _ w135 ⟨rfl, hk136⟩
  have ka137 := (Kp.then0 ka125 hk136)
  have hni138 : w111.heap.size ∉ bfp g11 s112 := (fun e => Nat.lt_irrefl _ (nt (Tab.lt (Nx.tab hn114) _ e) (nl (Nat.le_refl _) (Nat.le_refl _))))
  have hf139 := (Tab.k0 (Tab.kp (Tab.k0 (Nx.tab hn114) hk120) hk124 (fun b hb => (fun e => hni138 (e ▸ hb))) (Nat.ne_of_lt (nt (hf117.lt) (Nat.le_refl _)))) hk136)
  refine s_e (e_call ca13 (args := [(Vp g11.tb 0), (Vi 2), (.agg #[u8 32, u8 1, u8 0, u8 0, u8 0, u8 0, u8 0, u8 0, u8 0, u8 0, u8 0, u8 0, u8 0, u8 0, u8 0, u8 1, .int .i64 80])]) rfl (add_x hf139 (by decide) 2 (by decide) ⟨⟨32, 1, 0, 0, 0, 0, 0, 0, 0, 0, 0, 0, 0, 0, 0, 1⟩, 80⟩ (by decide))) rfl ?_
  rintro v140 w141 ⟨s142, hv143, hn144⟩
  rw [bk_5] at hv143 hn144; subst hv143
  have ka145 := (Kp.fresh ka137 (Nx.kp hn144) fun _ e => nl hk5.size (Tab.ge (Nx.tab hn114) _ e))
  have hni146 : 0 ∉ bfp g11 s112 := (Tab.tbn (Nx.tab hn114))
  have hf147 := ((((hf117.kp hk120 id).kp hk124 (Nat.ne_of_lt (nt (hf117.lt) (Nat.le_refl _)))).kp hk136 id).kp (Nx.kp hn144) hni146)
  refine s_y (y_move (v := (.tuple #[(.agg zBc.toArray), (Vi 10)])) rfl) rfl ?_
  refine s_y (y_ext rfl (v := (.agg zBc.toArray)) rfl) rfl ?_
  refine s_y (y_ext rfl (v := (Vi 10)) rfl) rfl ?_
  refine s_e (e_alloc ze36) rfl ?_
  rintro _ w148 ⟨rfl, hb149, hk150⟩
  have ka151 := (Kp.then0 ka145 hk150)
  refine s_e0 (e_storeV (cs' := #[(Vi 0), (Vi 0), (u8 0), (u8 0), (u8 0), (u8 0), (u8 0), (u8 0), (u8 0), (u8 0), (u8 0), (u8 0), (u8 0), (u8 0), (u8 0), (u8 0), (u8 0), (u8 0), (Vi 0), (u8 0), (u8 0), (u8 0), (u8 0), (Vi 0), Vf, (Vi 0)]) [(Vi 0), (Vi 0), (u8 0), (u8 0), (u8 0), (u8 0), (u8 0), (u8 0), (u8 0), (u8 0), (u8 0), (u8 0), (u8 0), (u8 0), (u8 0), (u8 0), (u8 0), (u8 0), (Vi 0), (u8 0), (u8 0), (u8 0), (u8 0), (Vi 0), Vf, (Vi 0)] rfl (v := (.agg zBc.toArray)) rfl rfl sz36 hb149 rfl rfl rfl) ?_
  rintro _ w152 ⟨hb153, hk154⟩
  have hz156 := (nl (nl (nl (nl hz126 hk120.size) hk124.size) hk136.size) (Nx.kp hn144).size)
  have ka155 := (Kp.fresh ka151 hk154 fun _ e => nl (nl hz156 (Nat.le_refl _)) (Nat.le_of_eq e.symm))
  refine s_y (y_assign (v := (Vi 10)) rfl) rfl ?_
  refine s_nil (hK134 _ _ (genC [(1, (Vp g11.tb 0)), (3, (Vp w29.heap.size 0)), (4, (Vi 0)), (6, (Vi 5)), (7, (Vp w82.heap.size 0)), (8, (Vi 0)), (10, (Vi 13)), (12, (Vi 10))] ⟨g127, g128, g129, g130, g131, g132, g133, rfl, trivial⟩ ?_))
  clear hK134; rintro E ⟨g157, g158, g159, g160, g161, g162, g163, g164, -⟩
  refine seq fun K165 hK165 => ?_
  refine reg ?_
  refine s_y (y_move (v := (Vp g11.tb 0)) g157) rfl ?_
  refine s_e (e_call ca14 (args := [(.int .u8 1), (Vi 65536)]) rfl (inT_spec 1 65536 _)) rfl ?_
  rintro _ w166 ⟨rfl, hk167⟩
  have ka168 := (Kp.then0 ka155 hk167)
  have hni169 : w141.heap.size ∉ bfp g11 s142 := (fun e => Nat.lt_irrefl _ (nt (Tab.lt (Nx.tab hn144) _ e) (nl (Nat.le_refl _) (Nat.le_refl _))))
  have hf170 := (Tab.k0 (Tab.kp (Tab.k0 (Nx.tab hn144) hk150) hk154 (fun b hb => (fun e => hni169 (e ▸ hb))) (Nat.ne_of_lt (nt (hf147.lt) (Nat.le_refl _)))) hk167)
  refine s_e (e_call ca13 (args := [(Vp g11.tb 0), (Vi 17), (.agg #[u8 32, u8 1, u8 0, u8 0, u8 0, u8 0, u8 0, u8 0, u8 0, u8 0, u8 0, u8 0, u8 0, u8 0, u8 0, u8 1, .int .i64 65536])]) rfl (add_x hf170 (by decide) 17 (by decide) ⟨⟨32, 1, 0, 0, 0, 0, 0, 0, 0, 0, 0, 0, 0, 0, 0, 1⟩, 65536⟩ (by decide))) rfl ?_
  rintro v171 w172 ⟨s173, hv174, hn175⟩
  rw [bk_6] at hv174 hn175; subst hv174
  have ka176 := (Kp.fresh ka168 (Nx.kp hn175) fun _ e => nl hk5.size (Tab.ge (Nx.tab hn144) _ e))
  have hni177 : 0 ∉ bfp g11 s142 := (Tab.tbn (Nx.tab hn144))
  have hf178 := ((((hf147.kp hk150 id).kp hk154 (Nat.ne_of_lt (nt (hf147.lt) (Nat.le_refl _)))).kp hk167 id).kp (Nx.kp hn175) hni177)
  refine s_y (y_move (v := (.tuple #[(.agg zBc.toArray), (Vi 1)])) rfl) rfl ?_
  refine s_y (y_ext rfl (v := (.agg zBc.toArray)) rfl) rfl ?_
  refine s_y (y_ext rfl (v := (Vi 1)) rfl) rfl ?_
  refine s_e (e_alloc ze36) rfl ?_
  rintro _ w179 ⟨rfl, hb180, hk181⟩
  have ka182 := (Kp.then0 ka176 hk181)
  refine s_e0 (e_storeV (cs' := #[(Vi 0), (Vi 0), (u8 0), (u8 0), (u8 0), (u8 0), (u8 0), (u8 0), (u8 0), (u8 0), (u8 0), (u8 0), (u8 0), (u8 0), (u8 0), (u8 0), (u8 0), (u8 0), (Vi 0), (u8 0), (u8 0), (u8 0), (u8 0), (Vi 0), Vf, (Vi 0)]) [(Vi 0), (Vi 0), (u8 0), (u8 0), (u8 0), (u8 0), (u8 0), (u8 0), (u8 0), (u8 0), (u8 0), (u8 0), (u8 0), (u8 0), (u8 0), (u8 0), (u8 0), (u8 0), (Vi 0), (u8 0), (u8 0), (u8 0), (u8 0), (Vi 0), Vf, (Vi 0)] rfl (v := (.agg zBc.toArray)) rfl rfl sz36 hb180 rfl rfl rfl) ?_
  rintro _ w183 ⟨hb184, hk185⟩
  have hz187 := (nl (nl (nl (nl hz156 hk150.size) hk154.size) hk167.size) (Nx.kp hn175).size)
  have ka186 := (Kp.fresh ka182 hk185 fun _ e => nl (nl hz187 (Nat.le_refl _)) (Nat.le_of_eq e.symm))
  refine s_y (y_assign (v := (Vi 1)) rfl) rfl ?_
  refine s_nil (hK165 _ _ (genC [(1, (Vp g11.tb 0)), (3, (Vp w29.heap.size 0)), (4, (Vi 0)), (6, (Vi 5)), (7, (Vp w82.heap.size 0)), (8, (Vi 0)), (10, (Vi 13)), (12, (Vi 10)), (14, (Vi 1))] ⟨g157, g158, g159, g160, g161, g162, g163, g164, rfl, trivial⟩ ?_))
  clear hK165; rintro E ⟨g188, g189, g190, g191, g192, g193, g194, g195, g196, -⟩
  refine seq fun K197 hK197 => ?_
  refine regD (fun _ => False) (.take 0 (.take 1 (.take 2 (.take 3 (.take 4 (.take 5 (.take 6 (.take 7 (.take 8 (.take 9 (.one 10 (.take 11 (.take 12 (.take 13 (.take 14 (.take 15 (.take 16 (.take 17 (.take 18 (.take 19 (.take 20 (.take 21 (.take 22 (.take 23 (.take 24 (.take 25 (.take 26 (.take 27 (.take 28 (.one 29 (.take 30 (.take 31 (.take 32 (.take 33 (.take 34 (.take 35 (.take 36 (.take 37 (.take 38 (.take 39 (.take 40 (.take 41 (.take 42 (.take 43 (.take 44 .done))))))))))))))))))))))))))))))))))))))))))))) mixed (by kernel_rfl) fun w198 hh199 hk200 => ?_
  have ka201 := (Kp.then0 ka186 hk200)
  refine o_y rfl (y_move (v := (Vi 0)) g190) ?_
  refine o_y rfl (y_eql rfl rfl) ?_
  refine o_y rfl (y_move (v := Vt) rfl) ?_
  refine o_gy rfl (.yes rfl rfl) (y_fld fo36_0 g189) ?_
  have hni202 : w29.heap.size ∉ bfp g11 s56 := (Nx.notin hn58 hni52 (nt (lt_of_get hb41) hk50.size))
  have hz203 := (nl (nl (nl (nl (nl hk50.size (Nx.kp hn58).size) hk64.size) hk68.size) hk77.size) (Nx.kp hn85).size)
  have hz204 := (nl (nl (nl (nl hk50.size (Nx.kp hn58).size) hk64.size) hk68.size) hk77.size)
  have hni205 : w29.heap.size ∉ bfp g11 s83 := (Nx.notin hn85 hni202 (nt (lt_of_get hb41) hz204))
  have hz206 := (nl (nl (nl (nl hz203 hk91.size) hk95.size) hk106.size) (Nx.kp hn114).size)
  have hz207 := (nl (nl (nl hz203 hk91.size) hk95.size) hk106.size)
  have hni208 : w29.heap.size ∉ bfp g11 s112 := (Nx.notin hn114 hni205 (nt (lt_of_get hb41) hz207))
  have hz209 := (nl (nl (nl (nl hz206 hk120.size) hk124.size) hk136.size) (Nx.kp hn144).size)
  have hz210 := (nl (nl (nl hz206 hk120.size) hk124.size) hk136.size)
  have hni211 : w29.heap.size ∉ bfp g11 s142 := (Nx.notin hn144 hni208 (nt (lt_of_get hb41) hz210))
  have hz212 := (nl (nl (nl (nl hz209 hk150.size) hk154.size) hk167.size) (Nx.kp hn175).size)
  refine o_gy rfl (.yes rfl rfl) (y_load (v := (Vi 1)) rfl (rd_sc sc3 (On.kp (hk200.get0 (hk185.get (hk181.get0 ((Nx.kp hn175).get (hk167.get0 (hk154.get (hk150.get0 ((Nx.kp hn144).get (hk136.get0 (hk124.get (hk120.get0 ((Nx.kp hn114).get (hk106.get0 (hk95.get (hk91.get0 ((Nx.kp hn85).get (hk77.get0 (hk68.get (hk64.get0 ((Nx.kp hn58).get (hk50.get0 hb41) hni52)) (Nat.ne_of_lt (nt (nt (lt_of_get hb41) (nl hk50.size (Nx.kp hn58).size)) (Nat.le_refl _))))) hni202)) (Nat.ne_of_lt (nt (nt (lt_of_get hb41) hz203) (Nat.le_refl _))))) hni205)) (Nat.ne_of_lt (nt (nt (lt_of_get hb41) hz206) (Nat.le_refl _))))) hni208)) (Nat.ne_of_lt (nt (nt (lt_of_get hb41) hz209) (Nat.le_refl _))))) hni211)) (Nat.ne_of_lt (nt (nt (lt_of_get hb41) hz212) (Nat.le_refl _))))) id) rfl)) ?_
  refine o_gy rfl (.yes rfl rfl) (y_eql rfl rfl) ?_
  refine o_y rfl (y_pick_t rfl (v := Vt) rfl) ?_
  refine o_y rfl (y_move (v := Vt) rfl) ?_
  refine o_gy rfl (.yes rfl rfl) (y_fld fo36_3 g189) ?_
  refine o_gy rfl (.yes rfl rfl) (y_load (v := (t4 (⟨(⟨1, 0, 0, 1⟩ : V4), 1024⟩ : T4))) rfl (rd_agg (vs := [(u8 1), (u8 0), (u8 0), (u8 1), (Vi 1024)]) ag34 (On.kp (hk200.get0 (hk185.get (hk181.get0 ((Nx.kp hn175).get (hk167.get0 (hk154.get (hk150.get0 ((Nx.kp hn144).get (hk136.get0 (hk124.get (hk120.get0 ((Nx.kp hn114).get (hk106.get0 (hk95.get (hk91.get0 ((Nx.kp hn85).get (hk77.get0 (hk68.get (hk64.get0 ((Nx.kp hn58).get (hk50.get0 hb41) hni52)) (Nat.ne_of_lt (nt (nt (lt_of_get hb41) (nl hk50.size (Nx.kp hn58).size)) (Nat.le_refl _))))) hni202)) (Nat.ne_of_lt (nt (nt (lt_of_get hb41) hz203) (Nat.le_refl _))))) hni205)) (Nat.ne_of_lt (nt (nt (lt_of_get hb41) hz206) (Nat.le_refl _))))) hni208)) (Nat.ne_of_lt (nt (nt (lt_of_get hb41) hz209) (Nat.le_refl _))))) hni211)) (Nat.ne_of_lt (nt (nt (lt_of_get hb41) hz212) (Nat.le_refl _))))) id) (by kernel_rfl) rfl)) ?_
  refine o_one ?_
  refine c_ge rfl (.yes rfl rfl) (e_call ca15 (args := [(.int .u8 1), (Vi 1024)]) rfl (outT_spec 1 1024 _)) ?_
  rintro _ w213 ⟨rfl, hk214⟩
  have ka215 := (Kp.then0 ka201 hk214)
  have ks216 : Kp (fun _ => False) w198 w213 := (Kp.then0 (Kp.refl _ _) hk214)
  refine ⟨ks216, ?_⟩
  refine o_gy rfl (.yes rfl rfl) (y_eqT (eq34 9997) eg34 (x := (⟨(⟨1, 0, 0, 1⟩ : V4), 1024⟩ : T4)) (y := (⟨(⟨1, 0, 0, 1⟩ : V4), 1024⟩ : T4)) rfl rfl ⟨_, rfl⟩ ⟨_, rfl⟩) ?_
  refine o_y rfl (y_pick_t rfl (v := (.bool (decide ((⟨(⟨1, 0, 0, 1⟩ : V4), 1024⟩ : T4) = (⟨(⟨1, 0, 0, 1⟩ : V4), 1024⟩ : T4))))) rfl) ?_
  refine o_y rfl (y_move (v := (.bool (decide ((⟨(⟨1, 0, 0, 1⟩ : V4), 1024⟩ : T4) = (⟨(⟨1, 0, 0, 1⟩ : V4), 1024⟩ : T4))))) rfl) ?_
  by_cases c217 : (⟨(⟨1, 0, 0, 1⟩ : V4), 1024⟩ : T4) = (⟨(⟨1, 0, 0, 1⟩ : V4), 1024⟩ : T4)
  · refine o_gy rfl (.yes rfl (congrArg Value.bool (decide_eq_true c217))) (y_move (v := (Vi 5)) g191) ?_
    refine o_gy rfl (.yes rfl (congrArg Value.bool (decide_eq_true c217))) (y_eql rfl rfl) ?_
    refine o_y rfl (y_pick_t (congrArg Value.bool (decide_eq_true c217)) (v := Vt) rfl) ?_
    refine o_y rfl (y_move (v := Vt) rfl) ?_
    refine o_gy rfl (.yes rfl rfl) (y_move (v := (Vi 0)) g193) ?_
    refine o_gy rfl (.yes rfl rfl) (y_eql rfl rfl) ?_
    refine o_y rfl (y_pick_t rfl (v := Vt) rfl) ?_
    refine o_y rfl (y_move (v := Vt) rfl) ?_
    refine o_gy rfl (.yes rfl rfl) (y_fld fo36_0 g192) ?_
    have hni218 : w82.heap.size ∉ bfp g11 s112 := (Nx.notin hn114 hni108 (nt (lt_of_get hb94) hk106.size))
    have hz219 := (nl (nl (nl (nl (nl hk106.size (Nx.kp hn114).size) hk120.size) hk124.size) hk136.size) (Nx.kp hn144).size)
    have hz220 := (nl (nl (nl (nl hk106.size (Nx.kp hn114).size) hk120.size) hk124.size) hk136.size)
    have hni221 : w82.heap.size ∉ bfp g11 s142 := (Nx.notin hn144 hni218 (nt (lt_of_get hb94) hz220))
    have hz222 := (nl (nl (nl (nl hz219 hk150.size) hk154.size) hk167.size) (Nx.kp hn175).size)
    refine o_gy rfl (.yes rfl rfl) (y_load (v := (Vi 2)) rfl (rd_sc sc3 (On.kp (hk200.get0 (hk185.get (hk181.get0 ((Nx.kp hn175).get (hk167.get0 (hk154.get (hk150.get0 ((Nx.kp hn144).get (hk136.get0 (hk124.get (hk120.get0 ((Nx.kp hn114).get (hk106.get0 hb94) hni108)) (Nat.ne_of_lt (nt (nt (lt_of_get hb94) (nl hk106.size (Nx.kp hn114).size)) (Nat.le_refl _))))) hni218)) (Nat.ne_of_lt (nt (nt (lt_of_get hb94) hz219) (Nat.le_refl _))))) hni221)) (Nat.ne_of_lt (nt (nt (lt_of_get hb94) hz222) (Nat.le_refl _))))) id) rfl)) ?_
    refine o_gy rfl (.yes rfl rfl) (y_eql rfl rfl) ?_
    refine o_y rfl (y_pick_t rfl (v := Vt) rfl) ?_
    refine o_y rfl (y_move (v := Vt) rfl) ?_
    refine o_gy rfl (.yes rfl rfl) (y_fld fo36_3 g192) ?_
    refine o_gy rfl (.yes rfl rfl) (y_load (v := (t4 (⟨(⟨1, 0, 0, 1⟩ : V4), 1025⟩ : T4))) rfl (rd_agg (vs := [(u8 1), (u8 0), (u8 0), (u8 1), (Vi 1025)]) ag34 (On.kp (hk200.get0 (hk185.get (hk181.get0 ((Nx.kp hn175).get (hk167.get0 (hk154.get (hk150.get0 ((Nx.kp hn144).get (hk136.get0 (hk124.get (hk120.get0 ((Nx.kp hn114).get (hk106.get0 hb94) hni108)) (Nat.ne_of_lt (nt (nt (lt_of_get hb94) (nl hk106.size (Nx.kp hn114).size)) (Nat.le_refl _))))) hni218)) (Nat.ne_of_lt (nt (nt (lt_of_get hb94) hz219) (Nat.le_refl _))))) hni221)) (Nat.ne_of_lt (nt (nt (lt_of_get hb94) hz222) (Nat.le_refl _))))) id) (by kernel_rfl) rfl)) ?_
    refine o_one ?_
    refine c_ge rfl (.yes rfl rfl) (e_call ca15 (args := [(.int .u8 1), (Vi 1025)]) rfl (outT_spec 1 1025 _)) ?_
    rintro _ w223 ⟨rfl, hk224⟩
    have ka225 := (Kp.then0 ka215 hk224)
    have ks226 := (Kp.then0 ks216 hk224)
    refine ⟨ks226, ?_⟩
    refine o_gy rfl (.yes rfl rfl) (y_eqT (eq34 9997) eg34 (x := (⟨(⟨1, 0, 0, 1⟩ : V4), 1025⟩ : T4)) (y := (⟨(⟨1, 0, 0, 1⟩ : V4), 1025⟩ : T4)) rfl rfl ⟨_, rfl⟩ ⟨_, rfl⟩) ?_
    refine o_y rfl (y_pick_t rfl (v := (.bool (decide ((⟨(⟨1, 0, 0, 1⟩ : V4), 1025⟩ : T4) = (⟨(⟨1, 0, 0, 1⟩ : V4), 1025⟩ : T4))))) rfl) ?_
    refine o_y rfl (y_move (v := (.bool (decide ((⟨(⟨1, 0, 0, 1⟩ : V4), 1025⟩ : T4) = (⟨(⟨1, 0, 0, 1⟩ : V4), 1025⟩ : T4))))) rfl) ?_
    by_cases c227 : (⟨(⟨1, 0, 0, 1⟩ : V4), 1025⟩ : T4) = (⟨(⟨1, 0, 0, 1⟩ : V4), 1025⟩ : T4)
    · refine o_gy rfl (.yes rfl (congrArg Value.bool (decide_eq_true c227))) (y_move (v := (Vi 13)) g194) ?_
      refine o_gy rfl (.yes rfl (congrArg Value.bool (decide_eq_true c227))) (y_eql rfl rfl) ?_
      refine o_y rfl (y_pick_t (congrArg Value.bool (decide_eq_true c227)) (v := Vt) rfl) ?_
      refine o_y rfl (y_move (v := Vt) rfl) ?_
      refine o_gy rfl (.yes rfl rfl) (y_move (v := (Vi 10)) g195) ?_
      refine o_gy rfl (.yes rfl rfl) (y_eql rfl rfl) ?_
      refine o_y rfl (y_pick_t rfl (v := Vt) rfl) ?_
      refine o_y rfl (y_move (v := Vt) rfl) ?_
      refine o_gy rfl (.yes rfl rfl) (y_move (v := (Vi 1)) g196) ?_
      refine o_gy rfl (.yes rfl rfl) (y_eql rfl rfl) ?_
      refine o_y rfl (y_pick_t rfl (v := Vt) rfl) ?_
      refine o_y rfl (y_assign (v := Vt) rfl) ?_
      refine o_done (hK197 _ _ (genC [(1, (Vp g11.tb 0)), (15, Vt)] ⟨g188, rfl, trivial⟩ ?_))
      clear hK197; rintro E ⟨g228, g229, -⟩
      refine seq fun K230 hK230 => ?_
      refine reg ?_
      refine s_y (y_move (v := (Vp g11.tb 0)) g228) rfl ?_
      have hni231 : w172.heap.size ∉ bfp g11 s173 := (fun e => Nat.lt_irrefl _ (nt (Tab.lt (Nx.tab hn175) _ e) (nl (Nat.le_refl _) (Nat.le_refl _))))
      have hf232 := (Tab.k0 (Tab.k0 (Tab.k0 (Tab.kp (Tab.k0 (Nx.tab hn175) hk181) hk185 (fun b hb => (fun e => hni231 (e ▸ hb))) (Nat.ne_of_lt (nt (hf178.lt) (Nat.le_refl _)))) hk200) hk214) hk224)
      refine s_e (e_call ca16 (args := [(Vp g11.tb 0), (Vi 1)]) rfl (hold_x hf232 (by decide) 1 (by decide))) rfl ?_
      rintro v233 w234 ⟨s235, hv236, hn237⟩
      rw [bk_7] at hv236 hn237; subst hv236
      have ka238 := (Kp.fresh ka225 (Nx.kp hn237) fun _ e => nl hk5.size (Tab.ge (Nx.tab hn175) _ e))
      have hni239 : 0 ∉ bfp g11 s173 := (Tab.tbn (Nx.tab hn175))
      have hf240 := ((((((hf178.kp hk181 id).kp hk185 (Nat.ne_of_lt (nt (hf178.lt) (Nat.le_refl _)))).kp hk200 id).kp hk214 id).kp hk224 id).kp (Nx.kp hn237) hni239)
      refine s_y (y_assign (v := (Vi 0)) rfl) rfl ?_
      refine s_nil (hK230 _ _ (genC [(1, (Vp g11.tb 0)), (15, Vt), (16, (Vi 0))] ⟨g228, g229, rfl, trivial⟩ ?_))
      clear hK230; rintro E ⟨g241, g242, g243, -⟩
      refine seq fun K244 hK244 => ?_
      refine reg ?_
      refine s_y (y_move (v := (Vp g11.tb 0)) g241) rfl ?_
      refine s_e (e_call ca17 (args := [(Vp g11.tb 0), (Vi 1)]) rfl (drop_x (Nx.tab hn237) (by decide) 1 (by decide))) rfl ?_
      rintro v245 w246 ⟨s247, hv248, hn249⟩
      rw [bk_8] at hv248 hn249; subst hv248
      have ka250 := (Kp.fresh ka238 (Nx.kp hn249) fun _ e => nl hk5.size (Tab.ge (Nx.tab hn237) _ e))
      have hni251 : 0 ∉ bfp g11 s235 := (Tab.tbn (Nx.tab hn237))
      have hf252 := (hf240.kp (Nx.kp hn249) hni251)
      refine s_y (y_move (v := (.tuple #[Vt, (Vi 0)])) rfl) rfl ?_
      refine s_y (y_ext rfl (v := Vt) rfl) rfl ?_
      refine s_y (y_ext rfl (v := (Vi 0)) rfl) rfl ?_
      refine s_y (y_assign (v := Vt) rfl) rfl ?_
      refine s_y (y_assign (v := (Vi 0)) rfl) rfl ?_
      refine s_nil (hK244 _ _ (genC [(1, (Vp g11.tb 0)), (15, Vt), (16, (Vi 0)), (17, Vt), (18, (Vi 0))] ⟨g241, g242, g243, rfl, rfl, trivial⟩ ?_))
      clear hK244; rintro E ⟨g253, g254, g255, g256, g257, -⟩
      refine seq fun K258 hK258 => ?_
      refine reg ?_
      refine s_y (y_move (v := (Vp g11.tb 0)) g253) rfl ?_
      refine s_e (e_call ca17 (args := [(Vp g11.tb 0), (Vi 1)]) rfl (drop_x (Nx.tab hn249) (by decide) 1 (by decide))) rfl ?_
      rintro v259 w260 ⟨s261, hv262, hn263⟩
      rw [bk_9] at hv262 hn263; subst hv262
      have ka264 := (Kp.fresh ka250 (Nx.kp hn263) fun _ e => nl hk5.size (Tab.ge (Nx.tab hn249) _ e))
      have hni265 : 0 ∉ bfp g11 s247 := (Tab.tbn (Nx.tab hn249))
      have hf266 := (hf252.kp (Nx.kp hn263) hni265)
      refine s_y (y_move (v := (.tuple #[Vf, (Vi 4)])) rfl) rfl ?_
      refine s_y (y_ext rfl (v := Vf) rfl) rfl ?_
      refine s_y (y_ext rfl (v := (Vi 4)) rfl) rfl ?_
      refine s_y (y_assign (v := Vf) rfl) rfl ?_
      refine s_y (y_assign (v := (Vi 4)) rfl) rfl ?_
      refine s_nil (hK258 _ _ (genC [(1, (Vp g11.tb 0)), (15, Vt), (16, (Vi 0)), (17, Vt), (18, (Vi 0)), (20, (Vi 4))] ⟨g253, g254, g255, g256, g257, rfl, trivial⟩ ?_))
      clear hK258; rintro E ⟨g267, g268, g269, g270, g271, g272, -⟩
      refine seq fun K273 hK273 => ?_
      refine reg ?_
      refine s_y (y_move (v := (Vp g11.tb 0)) g267) rfl ?_
      refine s_e (e_call ca17 (args := [(Vp g11.tb 0), (Vi 2)]) rfl (drop_x (Nx.tab hn263) (by decide) 2 (by decide))) rfl ?_
      rintro v274 w275 ⟨s276, hv277, hn278⟩
      rw [bk_10] at hv277 hn278; subst hv277
      have ka279 := (Kp.fresh ka264 (Nx.kp hn278) fun _ e => nl hk5.size (Tab.ge (Nx.tab hn263) _ e))
      have hni280 : 0 ∉ bfp g11 s261 := (Tab.tbn (Nx.tab hn263))
      have hf281 := (hf266.kp (Nx.kp hn278) hni280)
      refine s_y (y_move (v := (.tuple #[Vf, (Vi 11)])) rfl) rfl ?_
      refine s_y (y_ext rfl (v := Vf) rfl) rfl ?_
      refine s_y (y_ext rfl (v := (Vi 11)) rfl) rfl ?_
      refine s_y (y_assign (v := Vf) rfl) rfl ?_
      refine s_y (y_assign (v := (Vi 11)) rfl) rfl ?_
      refine s_nil (hK273 _ _ (genC [(1, (Vp g11.tb 0)), (15, Vt), (16, (Vi 0)), (17, Vt), (18, (Vi 0)), (20, (Vi 4)), (22, (Vi 11))] ⟨g267, g268, g269, g270, g271, g272, rfl, trivial⟩ ?_))
      clear hK273; rintro E ⟨g282, g283, g284, g285, g286, g287, g288, -⟩
      refine seq fun K289 hK289 => ?_
      refine reg ?_
      refine s_y (y_move (v := (Vi 0)) g284) rfl ?_
      refine s_y (y_eql rfl rfl) rfl ?_
      refine s_y (y_move (v := Vt) rfl) rfl ?_
      refine s_gy (.yes rfl rfl) (y_move (v := Vt) g285) rfl ?_
      refine s_y (y_pick_t rfl (v := Vt) rfl) rfl ?_
      refine s_y (y_move (v := Vt) rfl) rfl ?_
      refine s_gy (.yes rfl rfl) (y_move (v := (Vi 0)) g286) rfl ?_
      refine s_gy (.yes rfl rfl) (y_eql rfl rfl) rfl ?_
      refine s_y (y_pick_t rfl (v := Vt) rfl) rfl ?_
      refine s_y (y_move (v := Vt) rfl) rfl ?_
      refine s_gy (.yes rfl rfl) (y_move (v := (Vi 4)) g287) rfl ?_
      refine s_gy (.yes rfl rfl) (y_eql rfl rfl) rfl ?_
      refine s_y (y_pick_t rfl (v := Vt) rfl) rfl ?_
      refine s_y (y_move (v := Vt) rfl) rfl ?_
      refine s_gy (.yes rfl rfl) (y_move (v := (Vi 11)) g288) rfl ?_
      refine s_gy (.yes rfl rfl) (y_eql rfl rfl) rfl ?_
      refine s_y (y_pick_t rfl (v := Vt) rfl) rfl ?_
      refine s_y (y_move (v := Vt) rfl) rfl ?_
      refine s_gy (.yes rfl rfl) (y_move (v := (Vp g11.tb 0)) g282) rfl ?_
      refine s_ge (.yes rfl rfl) (e_call ca18 (args := [(Vp g11.tb 0)]) rfl (len_x (Nx.tab hn278))) rfl ?_
      rintro _ w290 ⟨rfl, hk291⟩
      have ka292 := (Kp.then0 ka279 hk291)
      refine s_gy (.yes rfl rfl) (y_eql rfl rfl) rfl ?_
      refine s_y (y_pick_t rfl (v := Vt) rfl) rfl ?_
      refine s_y (y_assign (v := Vt) rfl) rfl ?_
      refine s_nil (hK289 _ _ (genC [(1, (Vp g11.tb 0)), (15, Vt), (23, Vt)] ⟨g282, g283, rfl, trivial⟩ ?_))
      clear hK289; rintro E ⟨g293, g294, g295, -⟩
      refine seq fun K296 hK296 => ?_
      refine reg ?_
      refine s_y (y_move (v := (Vp g11.tb 0)) g293) rfl ?_
      refine s_e (e_call ca14 (args := [(.int .u8 1), (Vi 80)]) rfl (inT_spec 1 80 _)) rfl ?_
      rintro _ w297 ⟨rfl, hk298⟩
      have ka299 := (Kp.then0 ka292 hk298)
      refine s_e (e_call ca15 (args := [(.int .u8 1), (Vi 80)]) rfl (outT_spec 1 80 _)) rfl ?_
      rintro _ w300 ⟨rfl, hk301⟩
      have ka302 := (Kp.then0 ka299 hk301)
      have hf303 := (Tab.k0 (Tab.k0 (Tab.k0 (Nx.tab hn278) hk291) hk298) hk301)
      refine s_e (e_call ca19 (args := [(Vp g11.tb 0), (Vi 17), (.agg #[u8 32, u8 1, u8 0, u8 0, u8 0, u8 0, u8 0, u8 0, u8 0, u8 0, u8 0, u8 0, u8 0, u8 0, u8 0, u8 1, .int .i64 80]), (.agg #[u8 1, u8 0, u8 0, u8 1, .int .i64 80])]) rfl (bind_x hf303 (by decide) 17 ⟨⟨32, 1, 0, 0, 0, 0, 0, 0, 0, 0, 0, 0, 0, 0, 0, 1⟩, 80⟩ ⟨⟨1, 0, 0, 1⟩, 80⟩ (by decide) (by decide))) rfl ?_
      rintro v304 w305 ⟨s306, hv307, hn308⟩
      rw [bk_11] at hv307 hn308; subst hv307
      have ka309 := (Kp.fresh ka302 (Nx.kp hn308) fun _ e => nl hk5.size (Tab.ge (Nx.tab hn278) _ e))
      have hni310 : 0 ∉ bfp g11 s276 := (Tab.tbn (Nx.tab hn278))
      have hf311 := ((((hf281.kp hk291 id).kp hk298 id).kp hk301 id).kp (Nx.kp hn308) hni310)
      refine s_y (y_move (v := (.tuple #[(.agg #[.int .i64 3, .int .i64 17, u8 32, u8 1, u8 0, u8 0, u8 0, u8 0, u8 0, u8 0, u8 0, u8 0, u8 0, u8 0, u8 0, u8 0, u8 0, u8 1, .int .i64 80, u8 1, u8 0, u8 0, u8 1, .int .i64 80, .bool true, .int .i64 0]), (Vi 0)])) rfl) rfl ?_
      refine s_y (y_ext rfl (v := (.agg #[.int .i64 3, .int .i64 17, u8 32, u8 1, u8 0, u8 0, u8 0, u8 0, u8 0, u8 0, u8 0, u8 0, u8 0, u8 0, u8 0, u8 0, u8 0, u8 1, .int .i64 80, u8 1, u8 0, u8 0, u8 1, .int .i64 80, .bool true, .int .i64 0])) rfl) rfl ?_
      refine s_y (y_ext rfl (v := (Vi 0)) rfl) rfl ?_
      refine s_e (e_alloc ze36) rfl ?_
      rintro _ w312 ⟨rfl, hb313, hk314⟩
      have ka315 := (Kp.then0 ka309 hk314)
      refine s_e0 (e_storeV (cs' := #[(Vi 3), (Vi 17), (u8 32), (u8 1), (u8 0), (u8 0), (u8 0), (u8 0), (u8 0), (u8 0), (u8 0), (u8 0), (u8 0), (u8 0), (u8 0), (u8 0), (u8 0), (u8 1), (Vi 80), (u8 1), (u8 0), (u8 0), (u8 1), (Vi 80), Vt, (Vi 0)]) [(Vi 3), (Vi 17), (u8 32), (u8 1), (u8 0), (u8 0), (u8 0), (u8 0), (u8 0), (u8 0), (u8 0), (u8 0), (u8 0), (u8 0), (u8 0), (u8 0), (u8 0), (u8 1), (Vi 80), (u8 1), (u8 0), (u8 0), (u8 1), (Vi 80), Vt, (Vi 0)] rfl (v := (.agg #[.int .i64 3, .int .i64 17, u8 32, u8 1, u8 0, u8 0, u8 0, u8 0, u8 0, u8 0, u8 0, u8 0, u8 0, u8 0, u8 0, u8 0, u8 0, u8 1, .int .i64 80, u8 1, u8 0, u8 0, u8 1, .int .i64 80, .bool true, .int .i64 0])) rfl rfl sz36 hb313 rfl rfl rfl) ?_
      rintro _ w316 ⟨hb317, hk318⟩
      have hz320 := (nl (nl (nl (nl (nl (nl (nl (nl (nl (nl (nl (nl (nl hz187 hk181.size) hk185.size) hk200.size) hk214.size) hk224.size) (Nx.kp hn237).size) (Nx.kp hn249).size) (Nx.kp hn263).size) (Nx.kp hn278).size) hk291.size) hk298.size) hk301.size) (Nx.kp hn308).size)
      have ka319 := (Kp.fresh ka315 hk318 fun _ e => nl (nl hz320 (Nat.le_refl _)) (Nat.le_of_eq e.symm))
      refine s_y (y_assign (v := (Vi 0)) rfl) rfl ?_
      refine s_nil (hK296 _ _ (genC [(1, (Vp g11.tb 0)), (15, Vt), (23, Vt), (24, (Vp w305.heap.size 0)), (25, (Vi 0))] ⟨g293, g294, g295, rfl, rfl, trivial⟩ ?_))
      clear hK296; rintro E ⟨g321, g322, g323, g324, g325, -⟩
      refine seq fun K326 hK326 => ?_
      refine reg ?_
      refine s_y (y_move (v := (Vp g11.tb 0)) g321) rfl ?_
      refine s_e (e_call ca14 (args := [(.int .u8 2), (Vi 80)]) rfl (inT_spec 2 80 _)) rfl ?_
      rintro _ w327 ⟨rfl, hk328⟩
      have ka329 := (Kp.then0 ka319 hk328)
      refine s_e (e_call ca15 (args := [(.int .u8 1), (Vi 80)]) rfl (outT_spec 1 80 _)) rfl ?_
      rintro _ w330 ⟨rfl, hk331⟩
      have ka332 := (Kp.then0 ka329 hk331)
      have hni333 : w305.heap.size ∉ bfp g11 s306 := (fun e => Nat.lt_irrefl _ (nt (Tab.lt (Nx.tab hn308) _ e) (nl (Nat.le_refl _) (Nat.le_refl _))))
      have hf334 := (Tab.k0 (Tab.k0 (Tab.kp (Tab.k0 (Nx.tab hn308) hk314) hk318 (fun b hb => (fun e => hni333 (e ▸ hb))) (Nat.ne_of_lt (nt (hf311.lt) (Nat.le_refl _)))) hk328) hk331)
      refine s_e (e_call ca19 (args := [(Vp g11.tb 0), (Vi 17), (.agg #[u8 32, u8 1, u8 0, u8 0, u8 0, u8 0, u8 0, u8 0, u8 0, u8 0, u8 0, u8 0, u8 0, u8 0, u8 0, u8 2, .int .i64 80]), (.agg #[u8 1, u8 0, u8 0, u8 1, .int .i64 80])]) rfl (bind_x hf334 (by decide) 17 ⟨⟨32, 1, 0, 0, 0, 0, 0, 0, 0, 0, 0, 0, 0, 0, 0, 2⟩, 80⟩ ⟨⟨1, 0, 0, 1⟩, 80⟩ (by decide) (by decide))) rfl ?_
      rintro v335 w336 ⟨s337, hv338, hn339⟩
      rw [bk_12] at hv338 hn339; subst hv338
      have ka340 := (Kp.fresh ka332 (Nx.kp hn339) fun _ e => nl hk5.size (Tab.ge (Nx.tab hn308) _ e))
      have hni341 : 0 ∉ bfp g11 s306 := (Tab.tbn (Nx.tab hn308))
      have hf342 := (((((hf311.kp hk314 id).kp hk318 (Nat.ne_of_lt (nt (hf311.lt) (Nat.le_refl _)))).kp hk328 id).kp hk331 id).kp (Nx.kp hn339) hni341)
      refine s_y (y_move (v := (.tuple #[(.agg zBc.toArray), (Vi 5)])) rfl) rfl ?_
      refine s_y (y_ext rfl (v := (.agg zBc.toArray)) rfl) rfl ?_
      refine s_y (y_ext rfl (v := (Vi 5)) rfl) rfl ?_
      refine s_e (e_alloc ze36) rfl ?_
      rintro _ w343 ⟨rfl, hb344, hk345⟩
      have ka346 := (Kp.then0 ka340 hk345)
      refine s_e0 (e_storeV (cs' := #[(Vi 0), (Vi 0), (u8 0), (u8 0), (u8 0), (u8 0), (u8 0), (u8 0), (u8 0), (u8 0), (u8 0), (u8 0), (u8 0), (u8 0), (u8 0), (u8 0), (u8 0), (u8 0), (Vi 0), (u8 0), (u8 0), (u8 0), (u8 0), (Vi 0), Vf, (Vi 0)]) [(Vi 0), (Vi 0), (u8 0), (u8 0), (u8 0), (u8 0), (u8 0), (u8 0), (u8 0), (u8 0), (u8 0), (u8 0), (u8 0), (u8 0), (u8 0), (u8 0), (u8 0), (u8 0), (Vi 0), (u8 0), (u8 0), (u8 0), (u8 0), (Vi 0), Vf, (Vi 0)] rfl (v := (.agg zBc.toArray)) rfl rfl sz36 hb344 rfl rfl rfl) ?_
      rintro _ w347 ⟨hb348, hk349⟩
      have hz351 := (nl (nl (nl (nl (nl hz320 hk314.size) hk318.size) hk328.size) hk331.size) (Nx.kp hn339).size)
      have ka350 := (Kp.fresh ka346 hk349 fun _ e => nl (nl hz351 (Nat.le_refl _)) (Nat.le_of_eq e.symm))
      refine s_y (y_assign (v := (Vi 5)) rfl) rfl ?_
      refine s_nil (hK326 _ _ (genC [(1, (Vp g11.tb 0)), (15, Vt), (23, Vt), (24, (Vp w305.heap.size 0)), (25, (Vi 0)), (27, (Vi 5))] ⟨g321, g322, g323, g324, g325, rfl, trivial⟩ ?_))
      clear hK326; rintro E ⟨g352, g353, g354, g355, g356, g357, -⟩
      refine seq fun K358 hK358 => ?_
      refine reg ?_
      refine s_y (y_move (v := (Vp g11.tb 0)) g352) rfl ?_
      refine s_e (e_call ca14 (args := [(.int .u8 2), (Vi 80)]) rfl (inT_spec 2 80 _)) rfl ?_
      rintro _ w359 ⟨rfl, hk360⟩
      have ka361 := (Kp.then0 ka350 hk360)
      refine s_e (e_call ca15 (args := [(.int .u8 2), (Vi 80)]) rfl (outT_spec 2 80 _)) rfl ?_
      rintro _ w362 ⟨rfl, hk363⟩
      have ka364 := (Kp.then0 ka361 hk363)
      have hni365 : w336.heap.size ∉ bfp g11 s337 := (fun e => Nat.lt_irrefl _ (nt (Tab.lt (Nx.tab hn339) _ e) (nl (Nat.le_refl _) (Nat.le_refl _))))
      have hf366 := (Tab.k0 (Tab.k0 (Tab.kp (Tab.k0 (Nx.tab hn339) hk345) hk349 (fun b hb => (fun e => hni365 (e ▸ hb))) (Nat.ne_of_lt (nt (hf342.lt) (Nat.le_refl _)))) hk360) hk363)
      refine s_e (e_call ca19 (args := [(Vp g11.tb 0), (Vi 17), (.agg #[u8 32, u8 1, u8 0, u8 0, u8 0, u8 0, u8 0, u8 0, u8 0, u8 0, u8 0, u8 0, u8 0, u8 0, u8 0, u8 2, .int .i64 80]), (.agg #[u8 1, u8 0, u8 0, u8 2, .int .i64 80])]) rfl (bind_x hf366 (by decide) 17 ⟨⟨32, 1, 0, 0, 0, 0, 0, 0, 0, 0, 0, 0, 0, 0, 0, 2⟩, 80⟩ ⟨⟨1, 0, 0, 2⟩, 80⟩ (by decide) (by decide))) rfl ?_
      rintro v367 w368 ⟨s369, hv370, hn371⟩
      rw [bk_13] at hv370 hn371; subst hv370
      have ka372 := (Kp.fresh ka364 (Nx.kp hn371) fun _ e => nl hk5.size (Tab.ge (Nx.tab hn339) _ e))
      have hni373 : 0 ∉ bfp g11 s337 := (Tab.tbn (Nx.tab hn339))
      have hf374 := (((((hf342.kp hk345 id).kp hk349 (Nat.ne_of_lt (nt (hf342.lt) (Nat.le_refl _)))).kp hk360 id).kp hk363 id).kp (Nx.kp hn371) hni373)
      refine s_y (y_move (v := (.tuple #[(.agg zBc.toArray), (Vi 1)])) rfl) rfl ?_
      refine s_y (y_ext rfl (v := (.agg zBc.toArray)) rfl) rfl ?_
      refine s_y (y_ext rfl (v := (Vi 1)) rfl) rfl ?_
      refine s_e (e_alloc ze36) rfl ?_
      rintro _ w375 ⟨rfl, hb376, hk377⟩
      have ka378 := (Kp.then0 ka372 hk377)
      refine s_e0 (e_storeV (cs' := #[(Vi 0), (Vi 0), (u8 0), (u8 0), (u8 0), (u8 0), (u8 0), (u8 0), (u8 0), (u8 0), (u8 0), (u8 0), (u8 0), (u8 0), (u8 0), (u8 0), (u8 0), (u8 0), (Vi 0), (u8 0), (u8 0), (u8 0), (u8 0), (Vi 0), Vf, (Vi 0)]) [(Vi 0), (Vi 0), (u8 0), (u8 0), (u8 0), (u8 0), (u8 0), (u8 0), (u8 0), (u8 0), (u8 0), (u8 0), (u8 0), (u8 0), (u8 0), (u8 0), (u8 0), (u8 0), (Vi 0), (u8 0), (u8 0), (u8 0), (u8 0), (Vi 0), Vf, (Vi 0)] rfl (v := (.agg zBc.toArray)) rfl rfl sz36 hb376 rfl rfl rfl) ?_
      rintro _ w379 ⟨hb380, hk381⟩
      have hz383 := (nl (nl (nl (nl (nl hz351 hk345.size) hk349.size) hk360.size) hk363.size) (Nx.kp hn371).size)
      have ka382 := (Kp.fresh ka378 hk381 fun _ e => nl (nl hz383 (Nat.le_refl _)) (Nat.le_of_eq e.symm))
      refine s_y (y_assign (v := (Vi 1)) rfl) rfl ?_
      refine s_nil (hK358 _ _ (genC [(1, (Vp g11.tb 0)), (15, Vt), (23, Vt), (24, (Vp w305.heap.size 0)), (25, (Vi 0)), (27, (Vi 5)), (29, (Vi 1))] ⟨g352, g353, g354, g355, g356, g357, rfl, trivial⟩ ?_))
      clear hK358; rintro E ⟨g384, g385, g386, g387, g388, g389, g390, -⟩
      refine seq fun K391 hK391 => ?_
      refine reg ?_
      refine s_y (y_move (v := (Vp g11.tb 0)) g384) rfl ?_
      refine s_e (e_call ca14 (args := [(.int .u8 2), (Vi 80)]) rfl (inT_spec 2 80 _)) rfl ?_
      rintro _ w392 ⟨rfl, hk393⟩
      have ka394 := (Kp.then0 ka382 hk393)
      refine s_e (e_call ca15 (args := [(.int .u8 1), (Vi 1025)]) rfl (outT_spec 1 1025 _)) rfl ?_
      rintro _ w395 ⟨rfl, hk396⟩
      have ka397 := (Kp.then0 ka394 hk396)
      have hni398 : w368.heap.size ∉ bfp g11 s369 := (fun e => Nat.lt_irrefl _ (nt (Tab.lt (Nx.tab hn371) _ e) (nl (Nat.le_refl _) (Nat.le_refl _))))
      have hf399 := (Tab.k0 (Tab.k0 (Tab.kp (Tab.k0 (Nx.tab hn371) hk377) hk381 (fun b hb => (fun e => hni398 (e ▸ hb))) (Nat.ne_of_lt (nt (hf374.lt) (Nat.le_refl _)))) hk393) hk396)
      refine s_e (e_call ca19 (args := [(Vp g11.tb 0), (Vi 6), (.agg #[u8 32, u8 1, u8 0, u8 0, u8 0, u8 0, u8 0, u8 0, u8 0, u8 0, u8 0, u8 0, u8 0, u8 0, u8 0, u8 2, .int .i64 80]), (.agg #[u8 1, u8 0, u8 0, u8 1, .int .i64 1025])]) rfl (bind_x hf399 (by decide) 6 ⟨⟨32, 1, 0, 0, 0, 0, 0, 0, 0, 0, 0, 0, 0, 0, 0, 2⟩, 80⟩ ⟨⟨1, 0, 0, 1⟩, 1025⟩ (by decide) (by decide))) rfl ?_
      rintro v400 w401 ⟨s402, hv403, hn404⟩
      rw [bk_14] at hv403 hn404; subst hv403
      have ka405 := (Kp.fresh ka397 (Nx.kp hn404) fun _ e => nl hk5.size (Tab.ge (Nx.tab hn371) _ e))
      have hni406 : 0 ∉ bfp g11 s369 := (Tab.tbn (Nx.tab hn371))
      have hf407 := (((((hf374.kp hk377 id).kp hk381 (Nat.ne_of_lt (nt (hf374.lt) (Nat.le_refl _)))).kp hk393 id).kp hk396 id).kp (Nx.kp hn404) hni406)
      refine s_y (y_move (v := (.tuple #[(.agg zBc.toArray), (Vi 5)])) rfl) rfl ?_
      refine s_y (y_ext rfl (v := (.agg zBc.toArray)) rfl) rfl ?_
      refine s_y (y_ext rfl (v := (Vi 5)) rfl) rfl ?_
      refine s_e (e_alloc ze36) rfl ?_
      rintro _ w408 ⟨rfl, hb409, hk410⟩
      have ka411 := (Kp.then0 ka405 hk410)
      refine s_e0 (e_storeV (cs' := #[(Vi 0), (Vi 0), (u8 0), (u8 0), (u8 0), (u8 0), (u8 0), (u8 0), (u8 0), (u8 0), (u8 0), (u8 0), (u8 0), (u8 0), (u8 0), (u8 0), (u8 0), (u8 0), (Vi 0), (u8 0), (u8 0), (u8 0), (u8 0), (Vi 0), Vf, (Vi 0)]) [(Vi 0), (Vi 0), (u8 0), (u8 0), (u8 0), (u8 0), (u8 0), (u8 0), (u8 0), (u8 0), (u8 0), (u8 0), (u8 0), (u8 0), (u8 0), (u8 0), (u8 0), (u8 0), (Vi 0), (u8 0), (u8 0), (u8 0), (u8 0), (Vi 0), Vf, (Vi 0)] rfl (v := (.agg zBc.toArray)) rfl rfl sz36 hb409 rfl rfl rfl) ?_
      rintro _ w412 ⟨hb413, hk414⟩
      have hz416 := (nl (nl (nl (nl (nl hz383 hk377.size) hk381.size) hk393.size) hk396.size) (Nx.kp hn404).size)
      have ka415 := (Kp.fresh ka411 hk414 fun _ e => nl (nl hz416 (Nat.le_refl _)) (Nat.le_of_eq e.symm))
      refine s_y (y_assign (v := (Vi 5)) rfl) rfl ?_
      refine s_nil (hK391 _ _ (genC [(1, (Vp g11.tb 0)), (15, Vt), (23, Vt), (24, (Vp w305.heap.size 0)), (25, (Vi 0)), (27, (Vi 5)), (29, (Vi 1)), (31, (Vi 5))] ⟨g384, g385, g386, g387, g388, g389, g390, rfl, trivial⟩ ?_))
      clear hK391; rintro E ⟨g417, g418, g419, g420, g421, g422, g423, g424, -⟩
      refine seq fun K425 hK425 => ?_
      refine reg ?_
      refine s_y (y_move (v := (Vp g11.tb 0)) g417) rfl ?_
      refine s_e (e_call ca14 (args := [(.int .u8 2), (Vi 7)]) rfl (inT_spec 2 7 _)) rfl ?_
      rintro _ w426 ⟨rfl, hk427⟩
      have ka428 := (Kp.then0 ka415 hk427)
      have hni429 : w401.heap.size ∉ bfp g11 s402 := (fun e => Nat.lt_irrefl _ (nt (Tab.lt (Nx.tab hn404) _ e) (nl (Nat.le_refl _) (Nat.le_refl _))))
      have hf430 := (Tab.k0 (Tab.kp (Tab.k0 (Nx.tab hn404) hk410) hk414 (fun b hb => (fun e => hni429 (e ▸ hb))) (Nat.ne_of_lt (nt (hf407.lt) (Nat.le_refl _)))) hk427)
      refine s_e (e_call ca13 (args := [(Vp g11.tb 0), (Vi 1), (.agg #[u8 32, u8 1, u8 0, u8 0, u8 0, u8 0, u8 0, u8 0, u8 0, u8 0, u8 0, u8 0, u8 0, u8 0, u8 0, u8 2, .int .i64 7])]) rfl (add_x hf430 (by decide) 1 (by decide) ⟨⟨32, 1, 0, 0, 0, 0, 0, 0, 0, 0, 0, 0, 0, 0, 0, 2⟩, 7⟩ (by decide))) rfl ?_
      rintro v431 w432 ⟨s433, hv434, hn435⟩
      rw [bk_15] at hv434 hn435; subst hv434
      have ka436 := (Kp.fresh ka428 (Nx.kp hn435) fun _ e => nl hk5.size (Tab.ge (Nx.tab hn404) _ e))
      have hni437 : 0 ∉ bfp g11 s402 := (Tab.tbn (Nx.tab hn404))
      have hf438 := ((((hf407.kp hk410 id).kp hk414 (Nat.ne_of_lt (nt (hf407.lt) (Nat.le_refl _)))).kp hk427 id).kp (Nx.kp hn435) hni437)
      refine s_y (y_move (v := (.tuple #[(.agg #[.int .i64 4, .int .i64 1, u8 32, u8 1, u8 0, u8 0, u8 0, u8 0, u8 0, u8 0, u8 0, u8 0, u8 0, u8 0, u8 0, u8 0, u8 0, u8 2, .int .i64 7, u8 1, u8 0, u8 0, u8 1, .int .i64 1024, .bool false, .int .i64 0]), (Vi 0)])) rfl) rfl ?_
      refine s_y (y_ext rfl (v := (.agg #[.int .i64 4, .int .i64 1, u8 32, u8 1, u8 0, u8 0, u8 0, u8 0, u8 0, u8 0, u8 0, u8 0, u8 0, u8 0, u8 0, u8 0, u8 0, u8 2, .int .i64 7, u8 1, u8 0, u8 0, u8 1, .int .i64 1024, .bool false, .int .i64 0])) rfl) rfl ?_
      refine s_y (y_ext rfl (v := (Vi 0)) rfl) rfl ?_
      refine s_e (e_alloc ze36) rfl ?_
      rintro _ w439 ⟨rfl, hb440, hk441⟩
      have ka442 := (Kp.then0 ka436 hk441)
      refine s_e0 (e_storeV (cs' := #[(Vi 4), (Vi 1), (u8 32), (u8 1), (u8 0), (u8 0), (u8 0), (u8 0), (u8 0), (u8 0), (u8 0), (u8 0), (u8 0), (u8 0), (u8 0), (u8 0), (u8 0), (u8 2), (Vi 7), (u8 1), (u8 0), (u8 0), (u8 1), (Vi 1024), Vf, (Vi 0)]) [(Vi 4), (Vi 1), (u8 32), (u8 1), (u8 0), (u8 0), (u8 0), (u8 0), (u8 0), (u8 0), (u8 0), (u8 0), (u8 0), (u8 0), (u8 0), (u8 0), (u8 0), (u8 2), (Vi 7), (u8 1), (u8 0), (u8 0), (u8 1), (Vi 1024), Vf, (Vi 0)] rfl (v := (.agg #[.int .i64 4, .int .i64 1, u8 32, u8 1, u8 0, u8 0, u8 0, u8 0, u8 0, u8 0, u8 0, u8 0, u8 0, u8 0, u8 0, u8 0, u8 0, u8 2, .int .i64 7, u8 1, u8 0, u8 0, u8 1, .int .i64 1024, .bool false, .int .i64 0])) rfl rfl sz36 hb440 rfl rfl rfl) ?_
      rintro _ w443 ⟨hb444, hk445⟩
      have hz447 := (nl (nl (nl (nl hz416 hk410.size) hk414.size) hk427.size) (Nx.kp hn435).size)
      have ka446 := (Kp.fresh ka442 hk445 fun _ e => nl (nl hz447 (Nat.le_refl _)) (Nat.le_of_eq e.symm))
      refine s_y (y_assign (v := (Vi 0)) rfl) rfl ?_
      refine s_nil (hK425 _ _ (genC [(1, (Vp g11.tb 0)), (15, Vt), (23, Vt), (24, (Vp w305.heap.size 0)), (25, (Vi 0)), (27, (Vi 5)), (29, (Vi 1)), (31, (Vi 5)), (32, (Vp w432.heap.size 0)), (33, (Vi 0))] ⟨g417, g418, g419, g420, g421, g422, g423, g424, rfl, rfl, trivial⟩ ?_))
      clear hK425; rintro E ⟨g448, g449, g450, g451, g452, g453, g454, g455, g456, g457, -⟩
      refine seq fun K458 hK458 => ?_
      refine reg ?_
      refine s_y (y_move (v := (Vp g11.tb 0)) g448) rfl ?_
      refine s_e (e_call ca14 (args := [(.int .u8 3), (Vi 7)]) rfl (inT_spec 3 7 _)) rfl ?_
      rintro _ w459 ⟨rfl, hk460⟩
      have ka461 := (Kp.then0 ka446 hk460)
      have hni462 : w432.heap.size ∉ bfp g11 s433 := (fun e => Nat.lt_irrefl _ (nt (Tab.lt (Nx.tab hn435) _ e) (nl (Nat.le_refl _) (Nat.le_refl _))))
      have hf463 := (Tab.k0 (Tab.kp (Tab.k0 (Nx.tab hn435) hk441) hk445 (fun b hb => (fun e => hni462 (e ▸ hb))) (Nat.ne_of_lt (nt (hf438.lt) (Nat.le_refl _)))) hk460)
      refine s_e (e_call ca13 (args := [(Vp g11.tb 0), (Vi 1), (.agg #[u8 32, u8 1, u8 0, u8 0, u8 0, u8 0, u8 0, u8 0, u8 0, u8 0, u8 0, u8 0, u8 0, u8 0, u8 0, u8 3, .int .i64 7])]) rfl (add_x hf463 (by decide) 1 (by decide) ⟨⟨32, 1, 0, 0, 0, 0, 0, 0, 0, 0, 0, 0, 0, 0, 0, 3⟩, 7⟩ (by decide))) rfl ?_
      rintro v464 w465 ⟨s466, hv467, hn468⟩
      rw [bk_16] at hv467 hn468; subst hv467
      have ka469 := (Kp.fresh ka461 (Nx.kp hn468) fun _ e => nl hk5.size (Tab.ge (Nx.tab hn435) _ e))
      have hni470 : 0 ∉ bfp g11 s433 := (Tab.tbn (Nx.tab hn435))
      have hf471 := ((((hf438.kp hk441 id).kp hk445 (Nat.ne_of_lt (nt (hf438.lt) (Nat.le_refl _)))).kp hk460 id).kp (Nx.kp hn468) hni470)
      refine s_y (y_move (v := (.tuple #[(.agg zBc.toArray), (Vi 6)])) rfl) rfl ?_
      refine s_y (y_ext rfl (v := (.agg zBc.toArray)) rfl) rfl ?_
      refine s_y (y_ext rfl (v := (Vi 6)) rfl) rfl ?_
      refine s_e (e_alloc ze36) rfl ?_
      rintro _ w472 ⟨rfl, hb473, hk474⟩
      have ka475 := (Kp.then0 ka469 hk474)
      refine s_e0 (e_storeV (cs' := #[(Vi 0), (Vi 0), (u8 0), (u8 0), (u8 0), (u8 0), (u8 0), (u8 0), (u8 0), (u8 0), (u8 0), (u8 0), (u8 0), (u8 0), (u8 0), (u8 0), (u8 0), (u8 0), (Vi 0), (u8 0), (u8 0), (u8 0), (u8 0), (Vi 0), Vf, (Vi 0)]) [(Vi 0), (Vi 0), (u8 0), (u8 0), (u8 0), (u8 0), (u8 0), (u8 0), (u8 0), (u8 0), (u8 0), (u8 0), (u8 0), (u8 0), (u8 0), (u8 0), (u8 0), (u8 0), (Vi 0), (u8 0), (u8 0), (u8 0), (u8 0), (Vi 0), Vf, (Vi 0)] rfl (v := (.agg zBc.toArray)) rfl rfl sz36 hb473 rfl rfl rfl) ?_
      rintro _ w476 ⟨hb477, hk478⟩
      have hz480 := (nl (nl (nl (nl hz447 hk441.size) hk445.size) hk460.size) (Nx.kp hn468).size)
      have ka479 := (Kp.fresh ka475 hk478 fun _ e => nl (nl hz480 (Nat.le_refl _)) (Nat.le_of_eq e.symm))
      refine s_y (y_assign (v := (Vi 6)) rfl) rfl ?_
      refine s_nil (hK458 _ _ (genC [(1, (Vp g11.tb 0)), (15, Vt), (23, Vt), (24, (Vp w305.heap.size 0)), (25, (Vi 0)), (27, (Vi 5)), (29, (Vi 1)), (31, (Vi 5)), (32, (Vp w432.heap.size 0)), (33, (Vi 0)), (35, (Vi 6))] ⟨g448, g449, g450, g451, g452, g453, g454, g455, g456, g457, rfl, trivial⟩ ?_))
      clear hK458; rintro E ⟨g481, g482, g483, g484, g485, g486, g487, g488, g489, g490, g491, -⟩
      refine seq fun K492 hK492 => ?_
      refine reg ?_
      refine s_y (y_move (v := (Vp g11.tb 0)) g481) rfl ?_
      refine s_e (e_call ca14 (args := [(.int .u8 1), (Vi 80)]) rfl (inT_spec 1 80 _)) rfl ?_
      rintro _ w493 ⟨rfl, hk494⟩
      have ka495 := (Kp.then0 ka479 hk494)
      have hni496 : w465.heap.size ∉ bfp g11 s466 := (fun e => Nat.lt_irrefl _ (nt (Tab.lt (Nx.tab hn468) _ e) (nl (Nat.le_refl _) (Nat.le_refl _))))
      have hf497 := (Tab.k0 (Tab.kp (Tab.k0 (Nx.tab hn468) hk474) hk478 (fun b hb => (fun e => hni496 (e ▸ hb))) (Nat.ne_of_lt (nt (hf471.lt) (Nat.le_refl _)))) hk494)
      refine s_e (e_call ca20 (args := [(Vp g11.tb 0), (Vi 17), (.agg #[u8 32, u8 1, u8 0, u8 0, u8 0, u8 0, u8 0, u8 0, u8 0, u8 0, u8 0, u8 0, u8 0, u8 0, u8 0, u8 1, .int .i64 80])]) rfl (unbind_x hf497 17 ⟨⟨32, 1, 0, 0, 0, 0, 0, 0, 0, 0, 0, 0, 0, 0, 0, 1⟩, 80⟩ (by decide))) rfl ?_
      rintro v498 w499 ⟨s500, hv501, hn502⟩
      rw [bk_17] at hv501 hn502; subst hv501
      have ka503 := (Kp.fresh ka495 (Nx.kp hn502) fun _ e => nl hk5.size (Tab.ge (Nx.tab hn468) _ e))
      have hni504 : 0 ∉ bfp g11 s466 := (Tab.tbn (Nx.tab hn468))
      have hf505 := ((((hf471.kp hk474 id).kp hk478 (Nat.ne_of_lt (nt (hf471.lt) (Nat.le_refl _)))).kp hk494 id).kp (Nx.kp hn502) hni504)
      refine s_y (y_move (v := (.tuple #[(.agg #[.int .i64 3, .int .i64 17, u8 32, u8 1, u8 0, u8 0, u8 0, u8 0, u8 0, u8 0, u8 0, u8 0, u8 0, u8 0, u8 0, u8 0, u8 0, u8 1, .int .i64 80, u8 1, u8 0, u8 0, u8 1, .int .i64 80, .bool true, .int .i64 0]), (Vi 0)])) rfl) rfl ?_
      refine s_y (y_ext rfl (v := (.agg #[.int .i64 3, .int .i64 17, u8 32, u8 1, u8 0, u8 0, u8 0, u8 0, u8 0, u8 0, u8 0, u8 0, u8 0, u8 0, u8 0, u8 0, u8 0, u8 1, .int .i64 80, u8 1, u8 0, u8 0, u8 1, .int .i64 80, .bool true, .int .i64 0])) rfl) rfl ?_
      refine s_y (y_ext rfl (v := (Vi 0)) rfl) rfl ?_
      refine s_e (e_alloc ze36) rfl ?_
      rintro _ w506 ⟨rfl, hb507, hk508⟩
      have ka509 := (Kp.then0 ka503 hk508)
      refine s_e0 (e_storeV (cs' := #[(Vi 3), (Vi 17), (u8 32), (u8 1), (u8 0), (u8 0), (u8 0), (u8 0), (u8 0), (u8 0), (u8 0), (u8 0), (u8 0), (u8 0), (u8 0), (u8 0), (u8 0), (u8 1), (Vi 80), (u8 1), (u8 0), (u8 0), (u8 1), (Vi 80), Vt, (Vi 0)]) [(Vi 3), (Vi 17), (u8 32), (u8 1), (u8 0), (u8 0), (u8 0), (u8 0), (u8 0), (u8 0), (u8 0), (u8 0), (u8 0), (u8 0), (u8 0), (u8 0), (u8 0), (u8 1), (Vi 80), (u8 1), (u8 0), (u8 0), (u8 1), (Vi 80), Vt, (Vi 0)] rfl (v := (.agg #[.int .i64 3, .int .i64 17, u8 32, u8 1, u8 0, u8 0, u8 0, u8 0, u8 0, u8 0, u8 0, u8 0, u8 0, u8 0, u8 0, u8 0, u8 0, u8 1, .int .i64 80, u8 1, u8 0, u8 0, u8 1, .int .i64 80, .bool true, .int .i64 0])) rfl rfl sz36 hb507 rfl rfl rfl) ?_
      rintro _ w510 ⟨hb511, hk512⟩
      have hz514 := (nl (nl (nl (nl hz480 hk474.size) hk478.size) hk494.size) (Nx.kp hn502).size)
      have ka513 := (Kp.fresh ka509 hk512 fun _ e => nl (nl hz514 (Nat.le_refl _)) (Nat.le_of_eq e.symm))
      refine s_y (y_assign (v := (Vi 0)) rfl) rfl ?_
      refine s_nil (hK492 _ _ (genC [(1, (Vp g11.tb 0)), (15, Vt), (23, Vt), (24, (Vp w305.heap.size 0)), (25, (Vi 0)), (27, (Vi 5)), (29, (Vi 1)), (31, (Vi 5)), (32, (Vp w432.heap.size 0)), (33, (Vi 0)), (35, (Vi 6)), (36, (Vp w499.heap.size 0)), (37, (Vi 0))] ⟨g481, g482, g483, g484, g485, g486, g487, g488, g489, g490, g491, rfl, rfl, trivial⟩ ?_))
      clear hK492; rintro E ⟨g515, g516, g517, g518, g519, g520, g521, g522, g523, g524, g525, g526, g527, -⟩
      refine seq fun K528 hK528 => ?_
      refine reg ?_
      refine s_y (y_move (v := (Vp g11.tb 0)) g515) rfl ?_
      refine s_e (e_call ca14 (args := [(.int .u8 1), (Vi 5001)]) rfl (inT_spec 1 5001 _)) rfl ?_
      rintro _ w529 ⟨rfl, hk530⟩
      have ka531 := (Kp.then0 ka513 hk530)
      have hni532 : w499.heap.size ∉ bfp g11 s500 := (fun e => Nat.lt_irrefl _ (nt (Tab.lt (Nx.tab hn502) _ e) (nl (Nat.le_refl _) (Nat.le_refl _))))
      have hf533 := (Tab.k0 (Tab.kp (Tab.k0 (Nx.tab hn502) hk508) hk512 (fun b hb => (fun e => hni532 (e ▸ hb))) (Nat.ne_of_lt (nt (hf505.lt) (Nat.le_refl _)))) hk530)
      refine s_e (e_call ca20 (args := [(Vp g11.tb 0), (Vi 6), (.agg #[u8 32, u8 1, u8 0, u8 0, u8 0, u8 0, u8 0, u8 0, u8 0, u8 0, u8 0, u8 0, u8 0, u8 0, u8 0, u8 1, .int .i64 5001])]) rfl (unbind_x hf533 6 ⟨⟨32, 1, 0, 0, 0, 0, 0, 0, 0, 0, 0, 0, 0, 0, 0, 1⟩, 5001⟩ (by decide))) rfl ?_
      rintro v534 w535 ⟨s536, hv537, hn538⟩
      rw [bk_18] at hv537 hn538; subst hv537
      have ka539 := (Kp.fresh ka531 (Nx.kp hn538) fun _ e => nl hk5.size (Tab.ge (Nx.tab hn502) _ e))
      have hni540 : 0 ∉ bfp g11 s500 := (Tab.tbn (Nx.tab hn502))
      have hf541 := ((((hf505.kp hk508 id).kp hk512 (Nat.ne_of_lt (nt (hf505.lt) (Nat.le_refl _)))).kp hk530 id).kp (Nx.kp hn538) hni540)
      refine s_y (y_move (v := (.tuple #[(.agg zBc.toArray), (Vi 4)])) rfl) rfl ?_
      refine s_y (y_ext rfl (v := (.agg zBc.toArray)) rfl) rfl ?_
      refine s_y (y_ext rfl (v := (Vi 4)) rfl) rfl ?_
      refine s_e (e_alloc ze36) rfl ?_
      rintro _ w542 ⟨rfl, hb543, hk544⟩
      have ka545 := (Kp.then0 ka539 hk544)
      refine s_e0 (e_storeV (cs' := #[(Vi 0), (Vi 0), (u8 0), (u8 0), (u8 0), (u8 0), (u8 0), (u8 0), (u8 0), (u8 0), (u8 0), (u8 0), (u8 0), (u8 0), (u8 0), (u8 0), (u8 0), (u8 0), (Vi 0), (u8 0), (u8 0), (u8 0), (u8 0), (Vi 0), Vf, (Vi 0)]) [(Vi 0), (Vi 0), (u8 0), (u8 0), (u8 0), (u8 0), (u8 0), (u8 0), (u8 0), (u8 0), (u8 0), (u8 0), (u8 0), (u8 0), (u8 0), (u8 0), (u8 0), (u8 0), (Vi 0), (u8 0), (u8 0), (u8 0), (u8 0), (Vi 0), Vf, (Vi 0)] rfl (v := (.agg zBc.toArray)) rfl rfl sz36 hb543 rfl rfl rfl) ?_
      rintro _ w546 ⟨hb547, hk548⟩
      have hz550 := (nl (nl (nl (nl hz514 hk508.size) hk512.size) hk530.size) (Nx.kp hn538).size)
      have ka549 := (Kp.fresh ka545 hk548 fun _ e => nl (nl hz550 (Nat.le_refl _)) (Nat.le_of_eq e.symm))
      refine s_y (y_assign (v := (Vi 4)) rfl) rfl ?_
      refine s_nil (hK528 _ _ (genC [(1, (Vp g11.tb 0)), (15, Vt), (23, Vt), (24, (Vp w305.heap.size 0)), (25, (Vi 0)), (27, (Vi 5)), (29, (Vi 1)), (31, (Vi 5)), (32, (Vp w432.heap.size 0)), (33, (Vi 0)), (35, (Vi 6)), (36, (Vp w499.heap.size 0)), (37, (Vi 0)), (39, (Vi 4))] ⟨g515, g516, g517, g518, g519, g520, g521, g522, g523, g524, g525, g526, g527, rfl, trivial⟩ ?_))
      clear hK528; rintro E ⟨g551, g552, g553, g554, g555, g556, g557, g558, g559, g560, g561, g562, g563, g564, -⟩
      refine seq fun K565 hK565 => ?_
      refine regD (fun _ => False) (.take 0 (.take 1 (.take 2 (.take 3 (.take 4 (.take 5 (.take 6 (.take 7 (.take 8 (.take 9 (.take 10 (.take 11 (.take 12 (.take 13 (.take 14 (.take 15 (.take 16 (.take 17 (.take 18 (.take 19 (.take 20 (.take 21 (.take 22 (.take 23 (.take 24 (.take 25 (.take 26 (.take 27 (.take 28 (.take 29 (.one 30 (.take 31 (.take 32 (.take 33 (.take 34 (.take 35 (.take 36 (.take 37 (.take 38 (.take 39 (.take 40 (.take 41 (.take 42 (.take 43 (.take 44 (.take 45 (.take 46 (.take 47 (.take 48 (.take 49 (.take 50 .done))))))))))))))))))))))))))))))))))))))))))))))))))) mixed (by kernel_rfl) fun w566 hh567 hk568 => ?_
      have ka569 := (Kp.then0 ka549 hk568)
      refine o_y rfl (y_move (v := (Vi 0)) g555) ?_
      refine o_y rfl (y_eql rfl rfl) ?_
      refine o_y rfl (y_move (v := Vt) rfl) ?_
      refine o_gy rfl (.yes rfl rfl) (y_fld fo36_4 g554) ?_
      have hz570 := (nl (nl hk328.size hk331.size) (Nx.kp hn339).size)
      have hni571 : w305.heap.size ∉ bfp g11 s337 := (Nx.notin hn339 hni333 (nt (lt_of_get hb317) (nl hk328.size hk331.size)))
      have hz572 := (nl (nl (nl (nl (nl hz570 hk345.size) hk349.size) hk360.size) hk363.size) (Nx.kp hn371).size)
      have hz573 := (nl (nl (nl (nl hz570 hk345.size) hk349.size) hk360.size) hk363.size)
      have hni574 : w305.heap.size ∉ bfp g11 s369 := (Nx.notin hn371 hni571 (nt (lt_of_get hb317) hz573))
      have hz575 := (nl (nl (nl (nl (nl hz572 hk377.size) hk381.size) hk393.size) hk396.size) (Nx.kp hn404).size)
      have hz576 := (nl (nl (nl (nl hz572 hk377.size) hk381.size) hk393.size) hk396.size)
      have hni577 : w305.heap.size ∉ bfp g11 s402 := (Nx.notin hn404 hni574 (nt (lt_of_get hb317) hz576))
      have hz578 := (nl (nl (nl (nl hz575 hk410.size) hk414.size) hk427.size) (Nx.kp hn435).size)
      have hz579 := (nl (nl (nl hz575 hk410.size) hk414.size) hk427.size)
      have hni580 : w305.heap.size ∉ bfp g11 s433 := (Nx.notin hn435 hni577 (nt (lt_of_get hb317) hz579))
      have hz581 := (nl (nl (nl (nl hz578 hk441.size) hk445.size) hk460.size) (Nx.kp hn468).size)
      have hz582 := (nl (nl (nl hz578 hk441.size) hk445.size) hk460.size)
      have hni583 : w305.heap.size ∉ bfp g11 s466 := (Nx.notin hn468 hni580 (nt (lt_of_get hb317) hz582))
      have hz584 := (nl (nl (nl (nl hz581 hk474.size) hk478.size) hk494.size) (Nx.kp hn502).size)
      have hz585 := (nl (nl (nl hz581 hk474.size) hk478.size) hk494.size)
      have hni586 : w305.heap.size ∉ bfp g11 s500 := (Nx.notin hn502 hni583 (nt (lt_of_get hb317) hz585))
      have hz587 := (nl (nl (nl (nl hz584 hk508.size) hk512.size) hk530.size) (Nx.kp hn538).size)
      refine o_gy rfl (.yes rfl rfl) (y_load (v := Vt) rfl (rd_sc sc4 (On.kp (hk568.get0 (hk548.get (hk544.get0 ((Nx.kp hn538).get (hk530.get0 (hk512.get (hk508.get0 ((Nx.kp hn502).get (hk494.get0 (hk478.get (hk474.get0 ((Nx.kp hn468).get (hk460.get0 (hk445.get (hk441.get0 ((Nx.kp hn435).get (hk427.get0 (hk414.get (hk410.get0 ((Nx.kp hn404).get (hk396.get0 (hk393.get0 (hk381.get (hk377.get0 ((Nx.kp hn371).get (hk363.get0 (hk360.get0 (hk349.get (hk345.get0 ((Nx.kp hn339).get (hk331.get0 (hk328.get0 hb317)) hni333)) (Nat.ne_of_lt (nt (nt (lt_of_get hb317) hz570) (Nat.le_refl _)))))) hni571)) (Nat.ne_of_lt (nt (nt (lt_of_get hb317) hz572) (Nat.le_refl _)))))) hni574)) (Nat.ne_of_lt (nt (nt (lt_of_get hb317) hz575) (Nat.le_refl _))))) hni577)) (Nat.ne_of_lt (nt (nt (lt_of_get hb317) hz578) (Nat.le_refl _))))) hni580)) (Nat.ne_of_lt (nt (nt (lt_of_get hb317) hz581) (Nat.le_refl _))))) hni583)) (Nat.ne_of_lt (nt (nt (lt_of_get hb317) hz584) (Nat.le_refl _))))) hni586)) (Nat.ne_of_lt (nt (nt (lt_of_get hb317) hz587) (Nat.le_refl _))))) id) rfl)) ?_
      refine o_y rfl (y_pick_t rfl (v := Vt) rfl) ?_
      refine o_y rfl (y_move (v := Vt) rfl) ?_
      refine o_gy rfl (.yes rfl rfl) (y_fld fo36_0 g554) ?_
      refine o_gy rfl (.yes rfl rfl) (y_load (v := (Vi 3)) rfl (rd_sc sc3 (On.kp (hk568.get0 (hk548.get (hk544.get0 ((Nx.kp hn538).get (hk530.get0 (hk512.get (hk508.get0 ((Nx.kp hn502).get (hk494.get0 (hk478.get (hk474.get0 ((Nx.kp hn468).get (hk460.get0 (hk445.get (hk441.get0 ((Nx.kp hn435).get (hk427.get0 (hk414.get (hk410.get0 ((Nx.kp hn404).get (hk396.get0 (hk393.get0 (hk381.get (hk377.get0 ((Nx.kp hn371).get (hk363.get0 (hk360.get0 (hk349.get (hk345.get0 ((Nx.kp hn339).get (hk331.get0 (hk328.get0 hb317)) hni333)) (Nat.ne_of_lt (nt (nt (lt_of_get hb317) hz570) (Nat.le_refl _)))))) hni571)) (Nat.ne_of_lt (nt (nt (lt_of_get hb317) hz572) (Nat.le_refl _)))))) hni574)) (Nat.ne_of_lt (nt (nt (lt_of_get hb317) hz575) (Nat.le_refl _))))) hni577)) (Nat.ne_of_lt (nt (nt (lt_of_get hb317) hz578) (Nat.le_refl _))))) hni580)) (Nat.ne_of_lt (nt (nt (lt_of_get hb317) hz581) (Nat.le_refl _))))) hni583)) (Nat.ne_of_lt (nt (nt (lt_of_get hb317) hz584) (Nat.le_refl _))))) hni586)) (Nat.ne_of_lt (nt (nt (lt_of_get hb317) hz587) (Nat.le_refl _))))) id) rfl)) ?_
      refine o_gy rfl (.yes rfl rfl) (y_eql rfl rfl) ?_
      refine o_y rfl (y_pick_t rfl (v := Vt) rfl) ?_
      refine o_y rfl (y_move (v := Vt) rfl) ?_
      refine o_gy rfl (.yes rfl rfl) (y_move (v := (Vi 5)) g556) ?_
      refine o_gy rfl (.yes rfl rfl) (y_eql rfl rfl) ?_
      refine o_y rfl (y_pick_t rfl (v := Vt) rfl) ?_
      refine o_y rfl (y_move (v := Vt) rfl) ?_
      refine o_gy rfl (.yes rfl rfl) (y_move (v := (Vi 1)) g557) ?_
      refine o_gy rfl (.yes rfl rfl) (y_eql rfl rfl) ?_
      refine o_y rfl (y_pick_t rfl (v := Vt) rfl) ?_
      refine o_y rfl (y_move (v := Vt) rfl) ?_
      refine o_gy rfl (.yes rfl rfl) (y_move (v := (Vi 5)) g558) ?_
      refine o_gy rfl (.yes rfl rfl) (y_eql rfl rfl) ?_
      refine o_y rfl (y_pick_t rfl (v := Vt) rfl) ?_
      refine o_y rfl (y_move (v := Vt) rfl) ?_
      refine o_gy rfl (.yes rfl rfl) (y_move (v := (Vi 0)) g560) ?_
      refine o_gy rfl (.yes rfl rfl) (y_eql rfl rfl) ?_
      refine o_y rfl (y_pick_t rfl (v := Vt) rfl) ?_
      refine o_y rfl (y_move (v := Vt) rfl) ?_
      refine o_gy rfl (.yes rfl rfl) (y_fld fo36_3 g559) ?_
      have hni588 : w432.heap.size ∉ bfp g11 s466 := (Nx.notin hn468 hni462 (nt (lt_of_get hb444) hk460.size))
      have hz589 := (nl (nl (nl (nl (nl hk460.size (Nx.kp hn468).size) hk474.size) hk478.size) hk494.size) (Nx.kp hn502).size)
      have hz590 := (nl (nl (nl (nl hk460.size (Nx.kp hn468).size) hk474.size) hk478.size) hk494.size)
      have hni591 : w432.heap.size ∉ bfp g11 s500 := (Nx.notin hn502 hni588 (nt (lt_of_get hb444) hz590))
      have hz592 := (nl (nl (nl (nl hz589 hk508.size) hk512.size) hk530.size) (Nx.kp hn538).size)
      refine o_gy rfl (.yes rfl rfl) (y_load (v := (t4 (⟨(⟨1, 0, 0, 1⟩ : V4), 1024⟩ : T4))) rfl (rd_agg (vs := [(u8 1), (u8 0), (u8 0), (u8 1), (Vi 1024)]) ag34 (On.kp (hk568.get0 (hk548.get (hk544.get0 ((Nx.kp hn538).get (hk530.get0 (hk512.get (hk508.get0 ((Nx.kp hn502).get (hk494.get0 (hk478.get (hk474.get0 ((Nx.kp hn468).get (hk460.get0 hb444) hni462)) (Nat.ne_of_lt (nt (nt (lt_of_get hb444) (nl hk460.size (Nx.kp hn468).size)) (Nat.le_refl _))))) hni588)) (Nat.ne_of_lt (nt (nt (lt_of_get hb444) hz589) (Nat.le_refl _))))) hni591)) (Nat.ne_of_lt (nt (nt (lt_of_get hb444) hz592) (Nat.le_refl _))))) id) (by kernel_rfl) rfl)) ?_
      refine o_one ?_
      refine c_ge rfl (.yes rfl rfl) (e_call ca15 (args := [(.int .u8 1), (Vi 1024)]) rfl (outT_spec 1 1024 _)) ?_
      rintro _ w593 ⟨rfl, hk594⟩
      have ka595 := (Kp.then0 ka569 hk594)
      have ks596 : Kp (fun _ => False) w566 w593 := (Kp.then0 (Kp.refl _ _) hk594)
      refine ⟨ks596, ?_⟩
      refine o_gy rfl (.yes rfl rfl) (y_eqT (eq34 9997) eg34 (x := (⟨(⟨1, 0, 0, 1⟩ : V4), 1024⟩ : T4)) (y := (⟨(⟨1, 0, 0, 1⟩ : V4), 1024⟩ : T4)) rfl rfl ⟨_, rfl⟩ ⟨_, rfl⟩) ?_
      refine o_y rfl (y_pick_t rfl (v := (.bool (decide ((⟨(⟨1, 0, 0, 1⟩ : V4), 1024⟩ : T4) = (⟨(⟨1, 0, 0, 1⟩ : V4), 1024⟩ : T4))))) rfl) ?_
      refine o_y rfl (y_move (v := (.bool (decide ((⟨(⟨1, 0, 0, 1⟩ : V4), 1024⟩ : T4) = (⟨(⟨1, 0, 0, 1⟩ : V4), 1024⟩ : T4))))) rfl) ?_
      by_cases c597 : (⟨(⟨1, 0, 0, 1⟩ : V4), 1024⟩ : T4) = (⟨(⟨1, 0, 0, 1⟩ : V4), 1024⟩ : T4)
      · refine o_gy rfl (.yes rfl (congrArg Value.bool (decide_eq_true c597))) (y_move (v := (Vi 6)) g561) ?_
        refine o_gy rfl (.yes rfl (congrArg Value.bool (decide_eq_true c597))) (y_eql rfl rfl) ?_
        refine o_y rfl (y_pick_t (congrArg Value.bool (decide_eq_true c597)) (v := Vt) rfl) ?_
        refine o_y rfl (y_move (v := Vt) rfl) ?_
        refine o_gy rfl (.yes rfl rfl) (y_move (v := (Vi 0)) g563) ?_
        refine o_gy rfl (.yes rfl rfl) (y_eql rfl rfl) ?_
        refine o_y rfl (y_pick_t rfl (v := Vt) rfl) ?_
        refine o_y rfl (y_move (v := Vt) rfl) ?_
        refine o_gy rfl (.yes rfl rfl) (y_load (v := (bv (⟨3, 17, (⟨(⟨32, 1, 0, 0, 0, 0, 0, 0, 0, 0, 0, 0, 0, 0, 0, 1⟩ : V6), 80⟩ : T6), (⟨(⟨1, 0, 0, 1⟩ : V4), 80⟩ : T4), true, 0⟩ : Binding))) g562 (rd_agg (vs := [(Vi 3), (Vi 17), (u8 32), (u8 1), (u8 0), (u8 0), (u8 0), (u8 0), (u8 0), (u8 0), (u8 0), (u8 0), (u8 0), (u8 0), (u8 0), (u8 0), (u8 0), (u8 1), (Vi 80), (u8 1), (u8 0), (u8 0), (u8 1), (Vi 80), Vt, (Vi 0)]) ag36 (On.kp (hk568.get0 (hk548.get (hk544.get0 ((Nx.kp hn538).get (hk530.get0 hb511) hni532)) (Nat.ne_of_lt (nt (nt (lt_of_get hb511) (nl hk530.size (Nx.kp hn538).size)) (Nat.le_refl _))))) id) (by kernel_rfl) rfl)) ?_
        refine o_gy rfl (.yes rfl rfl) (y_load (v := (bv (⟨3, 17, (⟨(⟨32, 1, 0, 0, 0, 0, 0, 0, 0, 0, 0, 0, 0, 0, 0, 1⟩ : V6), 80⟩ : T6), (⟨(⟨1, 0, 0, 1⟩ : V4), 80⟩ : T4), true, 0⟩ : Binding))) g554 (rd_agg (vs := [(Vi 3), (Vi 17), (u8 32), (u8 1), (u8 0), (u8 0), (u8 0), (u8 0), (u8 0), (u8 0), (u8 0), (u8 0), (u8 0), (u8 0), (u8 0), (u8 0), (u8 0), (u8 1), (Vi 80), (u8 1), (u8 0), (u8 0), (u8 1), (Vi 80), Vt, (Vi 0)]) ag36 (On.kp (hk568.get0 (hk548.get (hk544.get0 ((Nx.kp hn538).get (hk530.get0 (hk512.get (hk508.get0 ((Nx.kp hn502).get (hk494.get0 (hk478.get (hk474.get0 ((Nx.kp hn468).get (hk460.get0 (hk445.get (hk441.get0 ((Nx.kp hn435).get (hk427.get0 (hk414.get (hk410.get0 ((Nx.kp hn404).get (hk396.get0 (hk393.get0 (hk381.get (hk377.get0 ((Nx.kp hn371).get (hk363.get0 (hk360.get0 (hk349.get (hk345.get0 ((Nx.kp hn339).get (hk331.get0 (hk328.get0 hb317)) hni333)) (Nat.ne_of_lt (nt (nt (lt_of_get hb317) hz570) (Nat.le_refl _)))))) hni571)) (Nat.ne_of_lt (nt (nt (lt_of_get hb317) hz572) (Nat.le_refl _)))))) hni574)) (Nat.ne_of_lt (nt (nt (lt_of_get hb317) hz575) (Nat.le_refl _))))) hni577)) (Nat.ne_of_lt (nt (nt (lt_of_get hb317) hz578) (Nat.le_refl _))))) hni580)) (Nat.ne_of_lt (nt (nt (lt_of_get hb317) hz581) (Nat.le_refl _))))) hni583)) (Nat.ne_of_lt (nt (nt (lt_of_get hb317) hz584) (Nat.le_refl _))))) hni586)) (Nat.ne_of_lt (nt (nt (lt_of_get hb317) hz587) (Nat.le_refl _))))) id) (by kernel_rfl) rfl)) ?_
        refine o_gy rfl (.yes rfl rfl) (y_eqT (eq36 9996) eg36 (x := (⟨3, 17, (⟨(⟨32, 1, 0, 0, 0, 0, 0, 0, 0, 0, 0, 0, 0, 0, 0, 1⟩ : V6), 80⟩ : T6), (⟨(⟨1, 0, 0, 1⟩ : V4), 80⟩ : T4), true, 0⟩ : Binding)) (y := (⟨3, 17, (⟨(⟨32, 1, 0, 0, 0, 0, 0, 0, 0, 0, 0, 0, 0, 0, 0, 1⟩ : V6), 80⟩ : T6), (⟨(⟨1, 0, 0, 1⟩ : V4), 80⟩ : T4), true, 0⟩ : Binding)) rfl rfl ⟨_, rfl⟩ ⟨_, rfl⟩) ?_
        refine o_y rfl (y_pick_t rfl (v := (.bool (decide ((⟨3, 17, (⟨(⟨32, 1, 0, 0, 0, 0, 0, 0, 0, 0, 0, 0, 0, 0, 0, 1⟩ : V6), 80⟩ : T6), (⟨(⟨1, 0, 0, 1⟩ : V4), 80⟩ : T4), true, 0⟩ : Binding) = (⟨3, 17, (⟨(⟨32, 1, 0, 0, 0, 0, 0, 0, 0, 0, 0, 0, 0, 0, 0, 1⟩ : V6), 80⟩ : T6), (⟨(⟨1, 0, 0, 1⟩ : V4), 80⟩ : T4), true, 0⟩ : Binding))))) rfl) ?_
        refine o_y rfl (y_move (v := (.bool (decide ((⟨3, 17, (⟨(⟨32, 1, 0, 0, 0, 0, 0, 0, 0, 0, 0, 0, 0, 0, 0, 1⟩ : V6), 80⟩ : T6), (⟨(⟨1, 0, 0, 1⟩ : V4), 80⟩ : T4), true, 0⟩ : Binding) = (⟨3, 17, (⟨(⟨32, 1, 0, 0, 0, 0, 0, 0, 0, 0, 0, 0, 0, 0, 0, 1⟩ : V6), 80⟩ : T6), (⟨(⟨1, 0, 0, 1⟩ : V4), 80⟩ : T4), true, 0⟩ : Binding))))) rfl) ?_
        by_cases c598 : (⟨3, 17, (⟨(⟨32, 1, 0, 0, 0, 0, 0, 0, 0, 0, 0, 0, 0, 0, 0, 1⟩ : V6), 80⟩ : T6), (⟨(⟨1, 0, 0, 1⟩ : V4), 80⟩ : T4), true, 0⟩ : Binding) = (⟨3, 17, (⟨(⟨32, 1, 0, 0, 0, 0, 0, 0, 0, 0, 0, 0, 0, 0, 0, 1⟩ : V6), 80⟩ : T6), (⟨(⟨1, 0, 0, 1⟩ : V4), 80⟩ : T4), true, 0⟩ : Binding)
        · refine o_gy rfl (.yes rfl (congrArg Value.bool (decide_eq_true c598))) (y_move (v := (Vi 4)) g564) ?_
          refine o_gy rfl (.yes rfl (congrArg Value.bool (decide_eq_true c598))) (y_eql rfl rfl) ?_
          refine o_y rfl (y_pick_t (congrArg Value.bool (decide_eq_true c598)) (v := Vt) rfl) ?_
          refine o_y rfl (y_assign (v := Vt) rfl) ?_
          refine o_done (hK565 _ _ (genC [(1, (Vp g11.tb 0)), (15, Vt), (23, Vt), (40, Vt)] ⟨g551, g552, g553, rfl, trivial⟩ ?_))
          clear hK565; rintro E ⟨g599, g600, g601, g602, -⟩
          refine seq fun K603 hK603 => ?_
          refine reg ?_
          refine s_y (y_move (v := Vt) g600) rfl ?_
          refine s_y (y_move (v := Vt) rfl) rfl ?_
          refine s_gy (.yes rfl rfl) (y_move (v := Vt) g601) rfl ?_
          refine s_y (y_pick_t rfl (v := Vt) rfl) rfl ?_
          refine s_y (y_move (v := Vt) rfl) rfl ?_
          refine s_gy (.yes rfl rfl) (y_move (v := Vt) g602) rfl ?_
          refine s_y (y_pick_t rfl (v := Vt) rfl) rfl ?_
          refine s_y (y_move (v := Vt) rfl) rfl ?_
          refine s_gy (.yes rfl rfl) (y_move (v := (Vp g11.tb 0)) g599) rfl ?_
          have hni604 : w535.heap.size ∉ bfp g11 s536 := (fun e => Nat.lt_irrefl _ (nt (Tab.lt (Nx.tab hn538) _ e) (nl (Nat.le_refl _) (Nat.le_refl _))))
          have hf605 := (Tab.k0 (Tab.k0 (Tab.kp (Tab.k0 (Nx.tab hn538) hk544) hk548 (fun b hb => (fun e => hni604 (e ▸ hb))) (Nat.ne_of_lt (nt (hf541.lt) (Nat.le_refl _)))) hk568) hk594)
          refine s_ge (.yes rfl rfl) (e_call ca21 (args := [(Vp g11.tb 0), (Vi 17)]) rfl (free_x hf605 (by decide) 17)) rfl ?_
          rintro v606 w607 ⟨hv609, hk608⟩
          rw [bk_19] at hv609; subst hv609
          have ka610 := (Kp.then0 ka595 hk608)
          refine s_gy (.yes rfl rfl) (y_eql rfl rfl) rfl ?_
          refine s_y (y_pick_t rfl (v := Vt) rfl) rfl ?_
          refine s_y (y_move (v := Vt) rfl) rfl ?_
          refine s_gy (.yes rfl rfl) (y_move (v := (Vp g11.tb 0)) g599) rfl ?_
          have hf611 := (Tab.k0 hf605 hk608)
          refine s_ge (.yes rfl rfl) (e_call ca21 (args := [(Vp g11.tb 0), (Vi 6)]) rfl (free_x hf611 (by decide) 6)) rfl ?_
          rintro v612 w613 ⟨hv615, hk614⟩
          rw [bk_20] at hv615; subst hv615
          have ka616 := (Kp.then0 ka610 hk614)
          refine s_gy (.yes rfl rfl) (y_eql rfl rfl) rfl ?_
          refine s_y (y_pick_t rfl (v := Vt) rfl) rfl ?_
          refine s_y (y_move (v := Vt) rfl) rfl ?_
          refine s_gy (.yes rfl rfl) (y_move (v := (Vp g11.tb 0)) g599) rfl ?_
          have hf617 := (Tab.k0 hf611 hk614)
          refine s_ge (.yes rfl rfl) (e_call ca21 (args := [(Vp g11.tb 0), (Vi 9)]) rfl (free_x hf617 (by decide) 9)) rfl ?_
          rintro v618 w619 ⟨hv621, hk620⟩
          rw [bk_21] at hv621; subst hv621
          have ka622 := (Kp.then0 ka616 hk620)
          refine s_gy (.yes rfl rfl) (y_eql rfl rfl) rfl ?_
          refine s_y (y_pick_t rfl (v := Vt) rfl) rfl ?_
          refine s_y (y_move (v := Vt) rfl) rfl ?_
          have hf623 := (((((((hf541.kp hk544 id).kp hk548 (Nat.ne_of_lt (nt (hf541.lt) (Nat.le_refl _)))).kp hk568 id).kp hk594 id).kp hk608 id).kp hk614 id).kp hk620 id)
          refine s_ge (.yes rfl rfl) (e_call ca22 (args := []) rfl (wakes_spec hf623)) rfl ?_
          rintro _ w624 ⟨rfl, hk625⟩
          have ka626 := (Kp.then0 ka622 hk625)
          refine s_y (y_pick_t rfl (v := Vt) rfl) rfl ?_
          refine s_y (y_assign (v := Vt) rfl) rfl ?_
          refine s_nil (hK603 _ _ (genC [(0, Vt)] ⟨rfl, trivial⟩ ?_))
          clear hK603; rintro E ⟨g627, -⟩
          refine ret (hret _ _ [Vt] ⟨g627, trivial⟩ ?_)
          exact ⟨rfl, ka626⟩
        · exact absurd rfl c598
      · exact absurd rfl c597
    · exact absurd rfl c227
  · exact absurd rfl c217

end Go.Proofs.YtdcnblafepgheaaDoor
