/-
  Written by a program (wip/walks).
-/
import Derived.Test.YtdcnblafepgheaaDoorS14
namespace Go.Proofs.YtdcnblafepgheaaDoor
open Go Go.V
set_option maxRecDepth 100000
theorem SesV.len {w0 w : World} {ys : List Session} {v : Value} {n : Nat} (h : SesV w0 ys v w) (hn : ys.length = n) : ∃ p c, v = .slice p n c := by
  rcases h with ⟨h1, h2⟩ | ⟨rb, cap, h1, _⟩
  · subst h1; subst hn; exact ⟨none, 0, h2⟩
  · subst hn; exact ⟨_, cap, h1⟩
def swA1 : Sx := ⟨1, [(⟨1, 1, ⟨⟨9, 0, 0, 1⟩, 80⟩, 0, 9⟩ : Session)]⟩
theorem sw_1 : addX 3 (⟨0, []⟩ : Sx) 1 ⟨⟨9, 0, 0, 1⟩, 80⟩ 0 9 = ((⟨1, 1, ⟨⟨9, 0, 0, 1⟩, 80⟩, 0, 9⟩ : Session), 0, swA1) := by kernel_rfl
theorem sw_2 : addX 3 swA1 1 ⟨⟨9, 0, 0, 1⟩, 80⟩ 0 9 = (zeroS, 5, swA1) := by kernel_rfl
theorem sw_3 : ((swA1).L.filter fun x => decide (x.binding = 1)).any (fun s => decide (s.peer.addr = ⟨9, 0, 0, 1⟩)) = true := by kernel_rfl
theorem sw_4 : ((swA1).L.filter fun x => decide (x.binding = 2)).any (fun s => decide (s.peer.addr = ⟨9, 0, 0, 1⟩)) = false := by kernel_rfl
def swA5 : Sx := ⟨1, []⟩
theorem sw_5 : popX swA1 9 = swA5 := by kernel_rfl
theorem sw_6 : (swA1).L.filter (fun x => decide (x.due ≤ 9)) = [(⟨1, 1, ⟨⟨9, 0, 0, 1⟩, 80⟩, 0, 9⟩ : Session)] := by kernel_rfl
theorem swakes_spec {w : World} (hT : Tb w) : Rets Tryd.prog 25 #[] w fun v w' => v = .bool true ∧ K0 w w' := by
  refine enter Tryd.func25 rfl Tryd.ntmps25 rfl fun Q hret hend E hE => ?_
  clear hE
  refine seq fun K1 hK1 => ?_
  refine reg ?_
  refine s_y (y_assign (v := Vf) rfl) rfl ?_
  refine s_nil (hK1 _ _ (genC [] trivial ?_))
  clear hK1; rintro E -
  refine seq fun K2 hK2 => ?_
  refine reg ?_
  refine s_e (e_call ca26 (args := [(Vi 3)]) rfl (sesnew_spec (max := 3) (by decide) hT)) rfl ?_
  rintro _ w3 ⟨⟨hx6, rfl⟩ | ⟨hx6, g5, rfl, hn7⟩, hk4⟩
  · exact absurd (by decide) hx6
  have ht8 := NewSes.tab hn7 (by decide)
  have ka9 : Kp (fun _ => False) w w3 := (Kp.then0 (Kp.refl _ _) hk4)
  refine s_y (y_move (v := (.tuple #[(Vp g5.tb 0), (Vi 0)])) rfl) rfl ?_
  refine s_y (y_ext rfl (v := (Vp g5.tb 0)) rfl) rfl ?_
  refine s_y (y_ext rfl (v := (Vi 0)) rfl) rfl ?_
  refine s_y (y_assign (v := (Vp g5.tb 0)) rfl) rfl ?_
  refine s_y (y_assign (v := (Vi 0)) rfl) rfl ?_
  refine s_nil (hK2 _ _ (genC [(1, (Vp g5.tb 0)), (2, (Vi 0))] ⟨rfl, rfl, trivial⟩ ?_))
  clear hK2; rintro E ⟨g10, g11, -⟩
  refine seq fun K12 hK12 => ?_
  refine seq fun K13 hK13 => ?_
  refine reg ?_
  refine s_y (y_move (v := (Vi 0)) g11) rfl ?_
  refine s_y (y_neq rfl rfl) rfl ?_
  refine s_y (y_move (v := Vf) rfl) rfl ?_
  refine s_gy (.yes rfl rfl) (y_move (v := (Vp g5.tb 0)) g10) rfl ?_
  refine s_gy (.yes rfl rfl) (y_peq Tryd.underlying53 rfl rfl) rfl ?_
  refine s_y (y_pick_f rfl (v := Vf) rfl) rfl ?_
  refine s_nil (hK13 _ _ (genC [(1, (Vp g5.tb 0)), (16, Vf)] ⟨g10, rfl, trivial⟩ ?_))
  clear hK13; rintro E ⟨g14, g15, -⟩
  refine cond_f g15 ?_
  refine skip (hK12 _ _ (genC [(1, (Vp g5.tb 0))] ⟨g14, trivial⟩ ?_))
  clear hK12; rintro E ⟨g16, -⟩
  refine seq fun K17 hK17 => ?_
  refine reg ?_
  refine s_y (y_move (v := (Vp g5.tb 0)) g16) rfl ?_
  refine s_e (e_call ca28 (args := [(.int .u8 1), (Vi 80)]) rfl (peerT_spec 1 80 _)) rfl ?_
  rintro _ w18 ⟨rfl, hk19⟩
  have ka20 := (Kp.then0 ka9 hk19)
  have hf21 := (STab.k0 ht8 hk19)
  refine s_e (e_call ca27 (args := [(Vp g5.tb 0), (Vi 1), (.agg #[u8 9, u8 0, u8 0, u8 1, .int .i64 80]), (Vi 0), (Vi 9)]) rfl (add_sx hf21 (by decide) 1 ⟨⟨9, 0, 0, 1⟩, 80⟩ 0 9 (by decide) (by decide) (by decide))) rfl ?_
  rintro v22 w23 ⟨s24, hv25, hn26⟩
  rw [sw_1] at hv25 hn26; subst hv25
  have ka27 := (Kp.fresh ka20 (SNx.kp hn26) fun _ e => nl (Nat.le_refl _) (STab.ge ht8 _ e))
  have hni28 : 0 ∉ sfp g5 ⟨0, [], ⟨none, [], []⟩, []⟩ := (STab.tbn ht8)
  have hf29 := (((hT.kp hk4 id).kp hk19 id).kp (SNx.kp hn26) hni28)
  refine s_y (y_move (v := (.tuple #[(.agg #[.int .i64 1, .int .i64 1, u8 9, u8 0, u8 0, u8 1, .int .i64 80, .int .i64 0, .int .i64 9]), (Vi 0)])) rfl) rfl ?_
  refine s_y (y_ext rfl (v := (.agg #[.int .i64 1, .int .i64 1, u8 9, u8 0, u8 0, u8 1, .int .i64 80, .int .i64 0, .int .i64 9])) rfl) rfl ?_
  refine s_y (y_ext rfl (v := (Vi 0)) rfl) rfl ?_
  refine s_e (e_alloc ze59) rfl ?_
  rintro _ w30 ⟨rfl, hb31, hk32⟩
  have ka33 := (Kp.then0 ka27 hk32)
  refine s_e0 (e_storeV (cs' := #[(Vi 1), (Vi 1), (u8 9), (u8 0), (u8 0), (u8 1), (Vi 80), (Vi 0), (Vi 9)]) [(Vi 1), (Vi 1), (u8 9), (u8 0), (u8 0), (u8 1), (Vi 80), (Vi 0), (Vi 9)] rfl (v := (.agg #[.int .i64 1, .int .i64 1, u8 9, u8 0, u8 0, u8 1, .int .i64 80, .int .i64 0, .int .i64 9])) rfl rfl sz59 hb31 rfl rfl rfl) ?_
  rintro _ w34 ⟨hb35, hk36⟩
  have hz38 := (nl (nl hk4.size hk19.size) (SNx.kp hn26).size)
  have ka37 := (Kp.fresh ka33 hk36 fun _ e => nl (nl hz38 (Nat.le_refl _)) (Nat.le_of_eq e.symm))
  refine s_y (y_assign (v := (Vi 0)) rfl) rfl ?_
  refine s_nil (hK17 _ _ (genC [(1, (Vp g5.tb 0)), (3, (Vp w23.heap.size 0)), (4, (Vi 0))] ⟨g16, rfl, rfl, trivial⟩ ?_))
  clear hK17; rintro E ⟨g39, g40, g41, -⟩
  refine seq fun K42 hK42 => ?_
  refine reg ?_
  refine s_y (y_move (v := (Vp g5.tb 0)) g39) rfl ?_
  refine s_e (e_call ca28 (args := [(.int .u8 1), (Vi 80)]) rfl (peerT_spec 1 80 _)) rfl ?_
  rintro _ w43 ⟨rfl, hk44⟩
  have ka45 := (Kp.then0 ka37 hk44)
  have hni46 : w23.heap.size ∉ sfp g5 s24 := (fun e => Nat.lt_irrefl _ (nt (STab.lt (SNx.tab hn26) _ e) (nl (Nat.le_refl _) (Nat.le_refl _))))
  have hf47 := (STab.k0 (STab.kp (STab.k0 (SNx.tab hn26) hk32) hk36 (fun b hb => (fun e => hni46 (e ▸ hb))) (Nat.ne_of_lt (nt (hf29.lt) (Nat.le_refl _)))) hk44)
  refine s_e (e_call ca27 (args := [(Vp g5.tb 0), (Vi 1), (.agg #[u8 9, u8 0, u8 0, u8 1, .int .i64 80]), (Vi 0), (Vi 9)]) rfl (add_sx hf47 (by decide) 1 ⟨⟨9, 0, 0, 1⟩, 80⟩ 0 9 (by decide) (by decide) (by decide))) rfl ?_
  rintro v48 w49 ⟨s50, hv51, hn52⟩
  rw [sw_2] at hv51 hn52; subst hv51
  have ka53 := (Kp.fresh ka45 (SNx.kp hn52) fun _ e => nl (Nat.le_refl _) (STab.ge (SNx.tab hn26) _ e))
  have hni54 : 0 ∉ sfp g5 s24 := (STab.tbn (SNx.tab hn26))
  have hf55 := ((((hf29.kp hk32 id).kp hk36 (Nat.ne_of_lt (nt (hf29.lt) (Nat.le_refl _)))).kp hk44 id).kp (SNx.kp hn52) hni54)
  refine s_y (y_move (v := (.tuple #[(.agg #[.int .i64 0, .int .i64 0, u8 0, u8 0, u8 0, u8 0, .int .i64 0, .int .i64 0, .int .i64 0]), (Vi 5)])) rfl) rfl ?_
  refine s_y (y_ext rfl (v := (.agg #[.int .i64 0, .int .i64 0, u8 0, u8 0, u8 0, u8 0, .int .i64 0, .int .i64 0, .int .i64 0])) rfl) rfl ?_
  refine s_y (y_ext rfl (v := (Vi 5)) rfl) rfl ?_
  refine s_e (e_alloc ze59) rfl ?_
  rintro _ w56 ⟨rfl, hb57, hk58⟩
  have ka59 := (Kp.then0 ka53 hk58)
  refine s_e0 (e_storeV (cs' := #[(Vi 0), (Vi 0), (u8 0), (u8 0), (u8 0), (u8 0), (Vi 0), (Vi 0), (Vi 0)]) [(Vi 0), (Vi 0), (u8 0), (u8 0), (u8 0), (u8 0), (Vi 0), (Vi 0), (Vi 0)] rfl (v := (.agg #[.int .i64 0, .int .i64 0, u8 0, u8 0, u8 0, u8 0, .int .i64 0, .int .i64 0, .int .i64 0])) rfl rfl sz59 hb57 rfl rfl rfl) ?_
  rintro _ w60 ⟨hb61, hk62⟩
  have hz64 := (nl (nl (nl (nl hz38 hk32.size) hk36.size) hk44.size) (SNx.kp hn52).size)
  have ka63 := (Kp.fresh ka59 hk62 fun _ e => nl (nl hz64 (Nat.le_refl _)) (Nat.le_of_eq e.symm))
  refine s_y (y_assign (v := (Vi 5)) rfl) rfl ?_
  refine s_nil (hK42 _ _ (genC [(1, (Vp g5.tb 0)), (3, (Vp w23.heap.size 0)), (4, (Vi 0)), (6, (Vi 5))] ⟨g39, g40, g41, rfl, trivial⟩ ?_))
  clear hK42; rintro E ⟨g65, g66, g67, g68, -⟩
  refine seq fun K69 hK69 => ?_
  refine reg ?_
  refine s_y (y_move (v := (Vi 0)) g67) rfl ?_
  refine s_y (y_eql rfl rfl) rfl ?_
  refine s_y (y_move (v := Vt) rfl) rfl ?_
  refine s_gy (.yes rfl rfl) (y_move (v := (Vi 5)) g68) rfl ?_
  refine s_gy (.yes rfl rfl) (y_eql rfl rfl) rfl ?_
  refine s_y (y_pick_t rfl (v := Vt) rfl) rfl ?_
  refine s_y (y_move (v := Vt) rfl) rfl ?_
  refine s_gy (.yes rfl rfl) (y_fld fo59_0 g66) rfl ?_
  have hb70 := (hk62.get (hk58.get0 ((SNx.kp hn52).get (hk44.get0 hb35) hni46)) (Nat.ne_of_lt (nt (nt (lt_of_get hb35) (nl hk44.size (SNx.kp hn52).size)) (Nat.le_refl _))))
  refine s_gy (.yes rfl rfl) (y_load (v := (Vi 1)) rfl (rd_sc sc3 (On.now hb70) rfl)) rfl ?_
  refine s_gy (.yes rfl rfl) (y_eql rfl rfl) rfl ?_
  refine s_y (y_pick_t rfl (v := Vt) rfl) rfl ?_
  refine s_y (y_move (v := Vt) rfl) rfl ?_
  refine s_gy (.yes rfl rfl) (y_move (v := (Vp g5.tb 0)) g65) rfl ?_
  refine s_ge (.yes rfl rfl) (e_call ca28 (args := [(.int .u8 1), (Vi 0)]) rfl (peerT_spec 1 0 _)) rfl ?_
  rintro _ w71 ⟨rfl, hk72⟩
  have ka73 := (Kp.then0 ka63 hk72)
  refine s_gy (.yes rfl rfl) (y_field (v := (.agg #[u8 9, u8 0, u8 0, u8 1])) rfl (fun _ => by kernel_rfl)) rfl ?_
  have hni74 : w49.heap.size ∉ sfp g5 s50 := (fun e => Nat.lt_irrefl _ (nt (STab.lt (SNx.tab hn52) _ e) (nl (Nat.le_refl _) (Nat.le_refl _))))
  have hf75 := (STab.k0 (STab.kp (STab.k0 (SNx.tab hn52) hk58) hk62 (fun b hb => (fun e => hni74 (e ▸ hb))) (Nat.ne_of_lt (nt (hf55.lt) (Nat.le_refl _)))) hk72)
  refine s_ge (.yes rfl rfl) (e_call ca32 (args := [(Vp g5.tb 0), (Vi 1), (.agg #[u8 9, u8 0, u8 0, u8 1])]) rfl (knows_sx hf75 1 ⟨9, 0, 0, 1⟩ (by decide))) rfl ?_
  rintro v76 w77 ⟨hv79, hk78⟩
  rw [sw_3] at hv79; subst hv79
  have ka80 := (Kp.then0 ka73 hk78)
  refine s_y (y_pick_t rfl (v := Vt) rfl) rfl ?_
  refine s_y (y_move (v := Vt) rfl) rfl ?_
  refine s_gy (.yes rfl rfl) (y_move (v := (Vp g5.tb 0)) g65) rfl ?_
  refine s_ge (.yes rfl rfl) (e_call ca28 (args := [(.int .u8 1), (Vi 0)]) rfl (peerT_spec 1 0 _)) rfl ?_
  rintro _ w81 ⟨rfl, hk82⟩
  have ka83 := (Kp.then0 ka80 hk82)
  refine s_gy (.yes rfl rfl) (y_field (v := (.agg #[u8 9, u8 0, u8 0, u8 1])) rfl (fun _ => by kernel_rfl)) rfl ?_
  have hf84 := (STab.k0 (STab.k0 hf75 hk78) hk82)
  refine s_ge (.yes rfl rfl) (e_call ca32 (args := [(Vp g5.tb 0), (Vi 2), (.agg #[u8 9, u8 0, u8 0, u8 1])]) rfl (knows_sx hf84 2 ⟨9, 0, 0, 1⟩ (by decide))) rfl ?_
  rintro v85 w86 ⟨hv88, hk87⟩
  rw [sw_4] at hv88; subst hv88
  have ka89 := (Kp.then0 ka83 hk87)
  refine s_gy (.yes rfl rfl) (y_not rfl) rfl ?_
  refine s_y (y_pick_t rfl (v := Vt) rfl) rfl ?_
  refine s_y (y_move (v := Vt) rfl) rfl ?_
  refine s_gy (.yes rfl rfl) (y_move (v := (Vp g5.tb 0)) g65) rfl ?_
  have hf90 := (STab.k0 hf84 hk87)
  refine s_ge (.yes rfl rfl) (e_call ca30 (args := [(Vp g5.tb 0), (Vi 9)]) rfl (pop_sx hf90 9)) rfl ?_
  rintro v91 w92 ⟨s93, xs94, hv95, hp96, hs97, hn98⟩
  rw [sw_6] at hp96; obtain rfl := List.perm_singleton.1 hp96; rw [sw_5] at hn98
  obtain ⟨hz9, _⟩ | ⟨rb99, cap100, rfl, hC101, hf102, hni103⟩ := hv95
  · cases hz9
  have ka104 := (Kp.fresh ka89 (SNx.kp hn98) fun _ e => nl (Nat.le_refl _) (STab.ge (SNx.tab hn52) _ e))
  refine s_gy (.yes rfl rfl) (y_lenS so63 rfl) rfl ?_
  refine s_gy (.yes rfl rfl) (y_eql rfl rfl) rfl ?_
  refine s_y (y_pick_t rfl (v := (.bool (decide ((((1 : Nat) : Int) : Int) = 1)))) rfl) rfl ?_
  refine s_y (y_assign (v := (.bool (decide ((((1 : Nat) : Int) : Int) = 1)))) rfl) rfl ?_
  refine s_nil (hK69 _ _ (genC [(0, (.bool (decide ((((1 : Nat) : Int) : Int) = 1))))] ⟨rfl, trivial⟩ ?_))
  clear hK69; rintro E ⟨g105, -⟩
  refine ret (hret _ _ [(.bool (decide ((((1 : Nat) : Int) : Int) = 1)))] ⟨g105, trivial⟩ ?_)
  exact ⟨rfl, ka104⟩

end Go.Proofs.YtdcnblafepgheaaDoor
