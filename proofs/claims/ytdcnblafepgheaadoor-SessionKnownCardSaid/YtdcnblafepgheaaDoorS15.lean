/-
  Written by a program (wip/walks).
-/
import Derived.Test.YtdcnblafepgheaaDoorS14
namespace Go.Proofs.YtdcnblafepgheaaDoor
open Go Go.V
set_option maxRecDepth 100000
theorem SesV.len {w0 w : World} {ys : List Session} {v : Value} {n : Nat} (h : SesV w0 ys v w) (hn : ys.length = n) : ∃ p c, v = .slice p n c := by
  rcases h with ⟨h1, h2⟩ | ⟨rb, cap, h1, _⟩
  · subst h1; subst hn; exact ⟨none, 0, h2⟩
  · subst hn; exact ⟨_, cap, h1⟩
theorem new_bad {max : Int} {w w' : World} {v : Value} (h : ((¬ (1 ≤ max ∧ max ≤ 65536) ∧ v = .tuple #[.pointer none, .int .i64 1]) ∨ ((1 ≤ max ∧ max ≤ 65536) ∧ ∃ g : SesG, v = .tuple #[.pointer (some ⟨g.tb, 0, none⟩), .int .i64 0] ∧ NewSes max w w' g)) ∧ K0 w w') (hb : ¬ (1 ≤ max ∧ max ≤ 65536)) : v = .tuple #[.pointer none, .int .i64 1] ∧ K0 w w' := by
  rcases h with ⟨⟨_, h1⟩ | ⟨h1, _⟩, hk⟩
  · exact ⟨h1, hk⟩
  · exact absurd h1 hb
def swA1 : Sx := ⟨1, [(⟨1, 1, ⟨⟨9, 0, 0, 1⟩, 80⟩, 0, 9⟩ : Session)]⟩
theorem sw_1 : addX 3 (⟨0, []⟩ : Sx) 1 ⟨⟨9, 0, 0, 1⟩, 80⟩ 0 9 = ((⟨1, 1, ⟨⟨9, 0, 0, 1⟩, 80⟩, 0, 9⟩ : Session), 0, swA1) := by kernel_rfl
theorem sw_2 : addX 3 swA1 1 ⟨⟨9, 0, 0, 1⟩, 80⟩ 0 9 = (zeroS, 5, swA1) := by kernel_rfl
theorem sw_3 : ((swA1).L.filter fun x => decide (x.binding = 1)).any (fun s => decide (s.peer.addr = ⟨9, 0, 0, 1⟩)) = true := by kernel_rfl
theorem sw_4 : ((swA1).L.filter fun x => decide (x.binding = 2)).any (fun s => decide (s.peer.addr = ⟨9, 0, 0, 1⟩)) = false := by kernel_rfl
def swA5 : Sx := ⟨1, []⟩
theorem sw_5 : popX swA1 9 = swA5 := by kernel_rfl
theorem sw_6 : (swA1).L.filter (fun x => decide (x.due ≤ 9)) = [(⟨1, 1, ⟨⟨9, 0, 0, 1⟩, 80⟩, 0, 9⟩ : Session)] := by kernel_rfl
theorem swakes_spec {w : World} (hT : Tb w) : Rets Tryd.prog 25 #[] w fun v w' => v = .bool true ∧ K0 w w' := by
  refine enter Tryd.func25 rfl Tryd.ntmps25 rfl fun Q hret hend E hE => ?_
  clear hE
  refine seq fun K1 hK1 => ?_
  refine reg ?_
  refine s_y (y_assign (v := Vf) rfl) rfl ?_
  refine s_nil (hK1 _ _ (genC [] trivial ?_))
  clear hK1; rintro E -
  refine seq fun K2 hK2 => ?_
  refine reg ?_
  refine s_e (e_call ca26 (args := [(Vi 3)]) rfl (sesnew_spec (max := 3) (by decide) hT)) rfl ?_
  rintro _ w3 ⟨⟨hx6, rfl⟩ | ⟨hx6, g5, rfl, hn7⟩, hk4⟩
  · exact absurd (by decide) hx6
  have ht8 := NewSes.tab hn7 (by decide)
  have ka9 : Kp (fun _ => False) w w3 := (Kp.then0 (Kp.refl _ _) hk4)
  refine s_y (y_move (v := (.tuple #[(Vp g5.tb 0), (Vi 0)])) rfl) rfl ?_
  refine s_y (y_ext rfl (v := (Vp g5.tb 0)) rfl) rfl ?_
  refine s_y (y_ext rfl (v := (Vi 0)) rfl) rfl ?_
  refine s_y (y_assign (v := (Vp g5.tb 0)) rfl) rfl ?_
  refine s_y (y_assign (v := (Vi 0)) rfl) rfl ?_
  refine s_nil (hK2 _ _ (genC [(1, (Vp g5.tb 0)), (2, (Vi 0))] ⟨rfl, rfl, trivial⟩ ?_))
  clear hK2; rintro E ⟨g10, g11, -⟩
  refine seq fun K12 hK12 => ?_
  refine seq fun K13 hK13 => ?_
  refine reg ?_
  refine s_y (y_move (v := (Vi 0)) g11) rfl ?_
  refine s_y (y_neq rfl rfl) rfl ?_
  refine s_y (y_move (v := Vf) rfl) rfl ?_
  refine s_gy (.yes rfl rfl) (y_move (v := (Vp g5.tb 0)) g10) rfl ?_
  refine s_gy (.yes rfl rfl) (y_peq Tryd.underlying53 rfl rfl) rfl ?_
  refine s_y (y_pick_f rfl (v := Vf) rfl) rfl ?_
  refine s_nil (hK13 _ _ (genC [(1, (Vp g5.tb 0)), (16, Vf)] ⟨g10, rfl, trivial⟩ ?_))
  clear hK13; rintro E ⟨g14, g15, -⟩
  refine cond_f g15 ?_
  refine skip (hK12 _ _ (genC [(1, (Vp g5.tb 0))] ⟨g14, trivial⟩ ?_))
  clear hK12; rintro E ⟨g16, -⟩
  refine seq fun K17 hK17 => ?_
  refine reg ?_
  refine s_y (y_move (v := (Vp g5.tb 0)) g16) rfl ?_
  refine s_e (e_call ca28 (args := [(.int .u8 1), (Vi 80)]) rfl (peerT_spec 1 80 _)) rfl ?_
  rintro _ w18 ⟨rfl, hk19⟩
  have ka20 := (Kp.then0 ka9 hk19)
  have hf21 := (STab.k0 ht8 hk19)
  refine s_e (e_call ca27 (args := [(Vp g5.tb 0), (Vi 1), (.agg #[u8 9, u8 0, u8 0, u8 1, .int .i64 80]), (Vi 0), (Vi 9)]) rfl (add_sx hf21 (by decide) 1 ⟨⟨9, 0, 0, 1⟩, 80⟩ 0 9 (by decide) (by decide) (by decide))) rfl ?_
  rintro v22 w23 ⟨s24, hv25, hn26⟩
  rw [sw_1] at hv25 hn26; subst hv25
  have ka27 := (Kp.fresh ka20 (SNx.kp hn26) fun _ e => nl (Nat.le_refl _) (STab.ge ht8 _ e))
  have hni28 : 0 ∉ sfp g5 ⟨0, [], ⟨none, [], []⟩, []⟩ := (STab.tbn ht8)
  have hf29 := (((hT.kp hk4 id).kp hk19 id).kp (SNx.kp hn26) hni28)
  refine s_y (y_move (v := (.tuple #[(.agg #[.int .i64 1, .int .i64 1, u8 9, u8 0, u8 0, u8 1, .int .i64 80, .int .i64 0, .int .i64 9]), (Vi 0)])) rfl) rfl ?_
  refine s_y (y_ext rfl (v := (.agg #[.int .i64 1, .int .i64 1, u8 9, u8 0, u8 0, u8 1, .int .i64 80, .int .i64 0, .int .i64 9])) rfl) rfl ?_
  refine s_y (y_ext rfl (v := (Vi 0)) rfl) rfl ?_
  refine s_e (e_alloc ze59) rfl ?_
  rintro _ w30 ⟨rfl, hb31, hk32⟩
  have ka33 := (Kp.then0 ka27 hk32)
  refine s_e0 (e_storeV (cs' := #[(Vi 1), (Vi 1), (u8 9), (u8 0), (u8 0), (u8 1), (Vi 80), (Vi 0), (Vi 9)]) [(Vi 1), (Vi 1), (u8 9), (u8 0), (u8 0), (u8 1), (Vi 80), (Vi 0), (Vi 9)] rfl (v := (.agg #[.int .i64 1, .int .i64 1, u8 9, u8 0, u8 0, u8 1, .int .i64 80, .int .i64 0, .int .i64 9])) rfl rfl sz59 hb31 rfl rfl rfl) ?_
  rintro _ w34 ⟨hb35, hk36⟩
  have hz38 := (nl (nl hk4.size hk19.size) (SNx.kp hn26).size)
  have ka37 := (Kp.fresh ka33 hk36 fun _ e => nl (nl hz38 (Nat.le_refl _)) (Nat.le_of_eq e.symm))
  refine s_y (y_assign (v := (Vi 0)) rfl) rfl ?_
  refine s_nil (hK17 _ _ (genC [(1, (Vp g5.tb 0)), (3, (Vp w23.heap.size 0)), (4, (Vi 0))] ⟨g16, rfl, rfl, trivial⟩ ?_))
  clear hK17; rintro E ⟨g39, g40, g41, -⟩
  refine seq fun K42 hK42 => ?_
  refine reg ?_
  refine s_y (y_move (v := (Vp g5.tb 0)) g39) rfl ?_
  refine s_e (e_call ca28 (args := [(.int .u8 1), (Vi 80)]) rfl (peerT_spec 1 80 _)) rfl ?_
  rintro _ w43 ⟨rfl, hk44⟩
  have ka45 := (Kp.then0 ka37 hk44)
  have hni46 : w23.heap.size ∉ sfp g5 s24 := (fun e => Nat.lt_irrefl _ (nt (STab.lt (SNx.tab hn26) _ e) (nl (Nat.le_refl _) (Nat.le_refl _))))
  have hf47 := (STab.k0 (STab.kp (STab.k0 (SNx.tab hn26) hk32) hk36 (fun b hb => (fun e => hni46 (e ▸ hb))) (Nat.ne_of_lt (nt (hf29.lt) (Nat.le_refl _)))) hk44)
  refine s_e (e_call ca27 (args := [(Vp g5.tb 0), (Vi 1), (.agg #[u8 9, u8 0, u8 0, u8 1, .int .i64 80]), (Vi 0), (Vi 9)]) rfl (add_sx hf47 (by decide) 1 ⟨⟨9, 0, 0, 1⟩, 80⟩ 0 9 (by decide) (by decide) (by decide))) rfl ?_
  rintro v48 w49 ⟨s50, hv51, hn52⟩
  rw [sw_2] at hv51 hn52; subst hv51
  have ka53 := (Kp.fresh ka45 (SNx.kp hn52) fun _ e => nl (Nat.le_refl _) (STab.ge (SNx.tab hn26) _ e))
  have hni54 : 0 ∉ sfp g5 s24 := (STab.tbn (SNx.tab hn26))
  have hf55 := ((((hf29.kp hk32 id).kp hk36 (Nat.ne_of_lt (nt (hf29.lt) (Nat.le_refl _)))).kp hk44 id).kp (SNx.kp hn52) hni54)
  refine s_y (y_move (v := (.tuple #[(.agg #[.int .i64 0, .int .i64 0, u8 0, u8 0, u8 0, u8 0, .int .i64 0, .int .i64 0, .int .i64 0]), (Vi 5)])) rfl) rfl ?_
  refine s_y (y_ext rfl (v := (.agg #[.int .i64 0, .int .i64 0, u8 0, u8 0, u8 0, u8 0, .int .i64 0, .int .i64 0, .int .i64 0])) rfl) rfl ?_
  refine s_y (y_ext rfl (v := (Vi 5)) rfl) rfl ?_
  refine s_e (e_alloc ze59) rfl ?_
  rintro _ w56 ⟨rfl, hb57, hk58⟩
  have ka59 := (Kp.then0 ka53 hk58)
  refine s_e0 (e_storeV (cs' := #[(Vi 0), (Vi 0), (u8 0), (u8 0), (u8 0), (u8 0), (Vi 0), (Vi 0), (Vi 0)]) [(Vi 0), (Vi 0), (u8 0), (u8 0), (u8 0), (u8 0), (Vi 0), (Vi 0), (Vi 0)] rfl (v := (.agg #[.int .i64 0, .int .i64 0, u8 0, u8 0, u8 0, u8 0, .int .i64 0, .int .i64 0, .int .i64 0])) rfl rfl sz59 hb57 rfl rfl rfl) ?_
  rintro _ w60 ⟨hb61, hk62⟩
  have hz64 := (nl (nl (nl (nl hz38 hk32.size) hk36.size) hk44.size) (SNx.kp hn52).size)
  have ka63 := (Kp.fresh ka59 hk62 fun _ e => nl (nl hz64 (Nat.le_refl _)) (Nat.le_of_eq e.symm))
  refine s_y (y_assign (v := (Vi 5)) rfl) rfl ?_
  refine s_nil (hK42 _ _ (genC [(1, (Vp g5.tb 0)), (3, (Vp w23.heap.size 0)), (4, (Vi 0)), (6, (Vi 5))] ⟨g39, g40, g41, rfl, trivial⟩ ?_))
  clear hK42; rintro E ⟨g65, g66, g67, g68, -⟩
  refine seq fun K69 hK69 => ?_
  refine reg ?_
  refine s_y (y_move (v := (Vi 0)) g67) rfl ?_
  refine s_y (y_eql rfl rfl) rfl ?_
  refine s_y (y_move (v := Vt) rfl) rfl ?_
  refine s_gy (.yes rfl rfl) (y_move (v := (Vi 5)) g68) rfl ?_
  refine s_gy (.yes rfl rfl) (y_eql rfl rfl) rfl ?_
  refine s_y (y_pick_t rfl (v := Vt) rfl) rfl ?_
  refine s_y (y_move (v := Vt) rfl) rfl ?_
  refine s_gy (.yes rfl rfl) (y_fld fo59_0 g66) rfl ?_
  have hb70 := (hk62.get (hk58.get0 ((SNx.kp hn52).get (hk44.get0 hb35) hni46)) (Nat.ne_of_lt (nt (nt (lt_of_get hb35) (nl hk44.size (SNx.kp hn52).size)) (Nat.le_refl _))))
  refine s_gy (.yes rfl rfl) (y_load (v := (Vi 1)) rfl (rd_sc sc3 (On.now hb70) rfl)) rfl ?_
  refine s_gy (.yes rfl rfl) (y_eql rfl rfl) rfl ?_
  refine s_y (y_pick_t rfl (v := Vt) rfl) rfl ?_
  refine s_y (y_move (v := Vt) rfl) rfl ?_
  refine s_gy (.yes rfl rfl) (y_move (v := (Vp g5.tb 0)) g65) rfl ?_
  refine s_ge (.yes rfl rfl) (e_call ca28 (args := [(.int .u8 1), (Vi 0)]) rfl (peerT_spec 1 0 _)) rfl ?_
  rintro _ w71 ⟨rfl, hk72⟩
  have ka73 := (Kp.then0 ka63 hk72)
  refine s_gy (.yes rfl rfl) (y_field (v := (.agg #[u8 9, u8 0, u8 0, u8 1])) rfl (fun _ => by kernel_rfl)) rfl ?_
  have hni74 : w49.heap.size ∉ sfp g5 s50 := (fun e => Nat.lt_irrefl _ (nt (STab.lt (SNx.tab hn52) _ e) (nl (Nat.le_refl _) (Nat.le_refl _))))
  have hf75 := (STab.k0 (STab.kp (STab.k0 (SNx.tab hn52) hk58) hk62 (fun b hb => (fun e => hni74 (e ▸ hb))) (Nat.ne_of_lt (nt (hf55.lt) (Nat.le_refl _)))) hk72)
  refine s_ge (.yes rfl rfl) (e_call ca32 (args := [(Vp g5.tb 0), (Vi 1), (.agg #[u8 9, u8 0, u8 0, u8 1])]) rfl (knows_sx hf75 1 ⟨9, 0, 0, 1⟩ (by decide))) rfl ?_
  rintro v76 w77 ⟨hv79, hk78⟩
  rw [sw_3] at hv79; subst hv79
  have ka80 := (Kp.then0 ka73 hk78)
  refine s_y (y_pick_t rfl (v := Vt) rfl) rfl ?_
  refine s_y (y_move (v := Vt) rfl) rfl ?_
  refine s_gy (.yes rfl rfl) (y_move (v := (Vp g5.tb 0)) g65) rfl ?_
  refine s_ge (.yes rfl rfl) (e_call ca28 (args := [(.int .u8 1), (Vi 0)]) rfl (peerT_spec 1 0 _)) rfl ?_
  rintro _ w81 ⟨rfl, hk82⟩
  have ka83 := (Kp.then0 ka80 hk82)
  refine s_gy (.yes rfl rfl) (y_field (v := (.agg #[u8 9, u8 0, u8 0, u8 1])) rfl (fun _ => by kernel_rfl)) rfl ?_
  have hf84 := (STab.k0 (STab.k0 hf75 hk78) hk82)
  refine s_ge (.yes rfl rfl) (e_call ca32 (args := [(Vp g5.tb 0), (Vi 2), (.agg #[u8 9, u8 0, u8 0, u8 1])]) rfl (knows_sx hf84 2 ⟨9, 0, 0, 1⟩ (by decide))) rfl ?_
  rintro v85 w86 ⟨hv88, hk87⟩
  rw [sw_4] at hv88; subst hv88
  have ka89 := (Kp.then0 ka83 hk87)
  refine s_gy (.yes rfl rfl) (y_not rfl) rfl ?_
  refine s_y (y_pick_t rfl (v := Vt) rfl) rfl ?_
  refine s_y (y_move (v := Vt) rfl) rfl ?_
  refine s_gy (.yes rfl rfl) (y_move (v := (Vp g5.tb 0)) g65) rfl ?_
  have hf90 := (STab.k0 hf84 hk87)
  refine s_ge (.yes rfl rfl) (e_call ca30 (args := [(Vp g5.tb 0), (Vi 9)]) rfl (pop_sx hf90 9)) rfl ?_
  rintro v91 w92 ⟨s93, xs94, hv95, hp96, hs97, hn98⟩
  rw [sw_6] at hp96; obtain rfl := List.perm_singleton.1 hp96; rw [sw_5] at hn98
  obtain ⟨hz9, _⟩ | ⟨rb99, cap100, rfl, hC101, hf102, hni103⟩ := hv95
  · cases hz9
  have ka104 := (Kp.fresh ka89 (SNx.kp hn98) fun _ e => nl (Nat.le_refl _) (STab.ge (SNx.tab hn52) _ e))
  refine s_gy (.yes rfl rfl) (y_lenS so63 rfl) rfl ?_
  refine s_gy (.yes rfl rfl) (y_eql rfl rfl) rfl ?_
  refine s_y (y_pick_t rfl (v := (.bool (decide ((((1 : Nat) : Int) : Int) = 1)))) rfl) rfl ?_
  refine s_y (y_assign (v := (.bool (decide ((((1 : Nat) : Int) : Int) = 1)))) rfl) rfl ?_
  refine s_nil (hK69 _ _ (genC [(0, (.bool (decide ((((1 : Nat) : Int) : Int) = 1))))] ⟨rfl, trivial⟩ ?_))
  clear hK69; rintro E ⟨g105, -⟩
  refine ret (hret _ _ [(.bool (decide ((((1 : Nat) : Int) : Int) = 1)))] ⟨g105, trivial⟩ ?_)
  exact ⟨rfl, ka104⟩

def skA1 : Sx := ⟨1, [(⟨1, 1, ⟨⟨9, 0, 0, 1⟩, 80⟩, 0, 9⟩ : Session)]⟩
theorem sk_1 : addX 2 (⟨0, []⟩ : Sx) 1 ⟨⟨9, 0, 0, 1⟩, 80⟩ 0 9 = ((⟨1, 1, ⟨⟨9, 0, 0, 1⟩, 80⟩, 0, 9⟩ : Session), 0, skA1) := by kernel_rfl
theorem sk_2 : addX 2 skA1 1 ⟨⟨9, 0, 0, 1⟩, 80⟩ 0 9 = (zeroS, 5, skA1) := by kernel_rfl
def skA3 : Sx := ⟨2, [(⟨1, 1, ⟨⟨9, 0, 0, 1⟩, 80⟩, 0, 9⟩ : Session), (⟨2, 1, ⟨⟨9, 0, 0, 1⟩, 81⟩, 5, 3⟩ : Session)]⟩
theorem sk_3 : addX 2 skA1 1 ⟨⟨9, 0, 0, 1⟩, 81⟩ 5 3 = ((⟨2, 1, ⟨⟨9, 0, 0, 1⟩, 81⟩, 5, 3⟩ : Session), 0, skA3) := by kernel_rfl
theorem sk_4 : addX 2 skA3 2 ⟨⟨9, 0, 0, 1⟩, 81⟩ 5 3 = (zeroS, 6, skA3) := by kernel_rfl
theorem sk_5 : addX 2 skA3 2 ⟨⟨9, 0, 0, 1⟩, 81⟩ 5 (-1) = (zeroS, 1, skA3) := by kernel_rfl
theorem sk_6 : ((skA3).L.filter fun x => decide (x.binding = 1)).any (fun s => decide (s.peer.addr = ⟨9, 0, 0, 1⟩)) = true := by kernel_rfl
theorem sk_7 : ((skA3).L.filter fun x => decide (x.binding = 2)).any (fun s => decide (s.peer.addr = ⟨9, 0, 0, 1⟩)) = false := by kernel_rfl
theorem sk_8 : ((skA3).L.filter fun x => decide (x.binding = 1)).any (fun s => decide (s.peer.addr = ⟨9, 0, 0, 2⟩)) = false := by kernel_rfl
def skA9 : Sx := ⟨2, [(⟨1, 1, ⟨⟨9, 0, 0, 1⟩, 80⟩, 7, 20⟩ : Session), (⟨2, 1, ⟨⟨9, 0, 0, 1⟩, 81⟩, 5, 3⟩ : Session)]⟩
theorem sk_9 : setX skA3 1 7 20 = (0, skA9) := by kernel_rfl
theorem sk_10 : setX skA9 1 7 4611686018427387905 = (1, skA9) := by kernel_rfl
def skA11 : Sx := ⟨2, [(⟨1, 1, ⟨⟨9, 0, 0, 1⟩, 80⟩, 7, 20⟩ : Session)]⟩
theorem sk_11 : popX skA9 9 = skA11 := by kernel_rfl
theorem sk_12 : (skA9).L.filter (fun x => decide (x.due ≤ 9)) = [(⟨2, 1, ⟨⟨9, 0, 0, 1⟩, 81⟩, 5, 3⟩ : Session)] := by kernel_rfl
theorem sk_13 : lookX (skA11).L 1 ⟨⟨9, 0, 0, 1⟩, 80⟩ = some (⟨1, 1, ⟨⟨9, 0, 0, 1⟩, 80⟩, 7, 20⟩ : Session) := by kernel_rfl
theorem sk_14 : dropX skA11 2 = (zeroS, 4, skA11) := by kernel_rfl
theorem sk_15 : ((skA11).L.filter fun x => decide (x.binding = 1)).length = 1 := by kernel_rfl
theorem sk_16 : ((skA11).L.filter fun x => decide (x.binding = 9)).length = 0 := by kernel_rfl
theorem sessionKnown_spec {w : World} (hT : Tb w) : Rets Tryd.prog 6 #[] w fun v w' => v = .bool true ∧ K0 w w' := by
  refine enter Tryd.func6 rfl Tryd.ntmps6 rfl fun Q hret hend E hE => ?_
  clear hE
  refine seq fun K1 hK1 => ?_
  refine reg ?_
  refine s_y (y_assign (v := Vf) rfl) rfl ?_
  refine s_nil (hK1 _ _ (genC [] trivial ?_))
  clear hK1; rintro E -
  refine seq fun K2 hK2 => ?_
  refine reg ?_
  refine s_e (e_call ca26 (args := [(Vi 2)]) rfl (sesnew_spec (max := 2) (by decide) hT)) rfl ?_
  rintro _ w3 ⟨⟨hx6, rfl⟩ | ⟨hx6, g5, rfl, hn7⟩, hk4⟩
  · exact absurd (by decide) hx6
  have ht8 := NewSes.tab hn7 (by decide)
  have ka9 : Kp (fun _ => False) w w3 := (Kp.then0 (Kp.refl _ _) hk4)
  refine s_y (y_move (v := (.tuple #[(Vp g5.tb 0), (Vi 0)])) rfl) rfl ?_
  refine s_y (y_ext rfl (v := (Vp g5.tb 0)) rfl) rfl ?_
  refine s_y (y_ext rfl (v := (Vi 0)) rfl) rfl ?_
  refine s_y (y_assign (v := (Vp g5.tb 0)) rfl) rfl ?_
  refine s_y (y_assign (v := (Vi 0)) rfl) rfl ?_
  refine s_nil (hK2 _ _ (genC [(1, (Vp g5.tb 0)), (2, (Vi 0))] ⟨rfl, rfl, trivial⟩ ?_))
  clear hK2; rintro E ⟨g10, g11, -⟩
  refine seq fun K12 hK12 => ?_
  refine seq fun K13 hK13 => ?_
  refine reg ?_
  refine s_y (y_move (v := (Vi 0)) g11) rfl ?_
  refine s_y (y_neq rfl rfl) rfl ?_
  refine s_y (y_move (v := Vf) rfl) rfl ?_
  refine s_gy (.yes rfl rfl) (y_move (v := (Vp g5.tb 0)) g10) rfl ?_
  refine s_gy (.yes rfl rfl) (y_peq Tryd.underlying53 rfl rfl) rfl ?_
  refine s_y (y_pick_f rfl (v := Vf) rfl) rfl ?_
  refine s_nil (hK13 _ _ (genC [(1, (Vp g5.tb 0)), (36, Vf)] ⟨g10, rfl, trivial⟩ ?_))
  clear hK13; rintro E ⟨g14, g15, -⟩
  refine cond_f g15 ?_
  refine skip (hK12 _ _ (genC [(1, (Vp g5.tb 0))] ⟨g14, trivial⟩ ?_))
  clear hK12; rintro E ⟨g16, -⟩
  refine seq fun K17 hK17 => ?_
  refine reg ?_
  refine s_y (y_move (v := (Vp g5.tb 0)) g16) rfl ?_
  refine s_e (e_call ca28 (args := [(.int .u8 1), (Vi 80)]) rfl (peerT_spec 1 80 _)) rfl ?_
  rintro _ w18 ⟨rfl, hk19⟩
  have ka20 := (Kp.then0 ka9 hk19)
  have hf21 := (STab.k0 ht8 hk19)
  refine s_e (e_call ca27 (args := [(Vp g5.tb 0), (Vi 1), (.agg #[u8 9, u8 0, u8 0, u8 1, .int .i64 80]), (Vi 0), (Vi 9)]) rfl (add_sx hf21 (by decide) 1 ⟨⟨9, 0, 0, 1⟩, 80⟩ 0 9 (by decide) (by decide) (by decide))) rfl ?_
  rintro v22 w23 ⟨s24, hv25, hn26⟩
  rw [sk_1] at hv25 hn26; subst hv25
  have ka27 := (Kp.fresh ka20 (SNx.kp hn26) fun _ e => nl (Nat.le_refl _) (STab.ge ht8 _ e))
  have hni28 : 0 ∉ sfp g5 ⟨0, [], ⟨none, [], []⟩, []⟩ := (STab.tbn ht8)
  have hf29 := (((hT.kp hk4 id).kp hk19 id).kp (SNx.kp hn26) hni28)
  refine s_y (y_move (v := (.tuple #[(.agg #[.int .i64 1, .int .i64 1, u8 9, u8 0, u8 0, u8 1, .int .i64 80, .int .i64 0, .int .i64 9]), (Vi 0)])) rfl) rfl ?_
  refine s_y (y_ext rfl (v := (.agg #[.int .i64 1, .int .i64 1, u8 9, u8 0, u8 0, u8 1, .int .i64 80, .int .i64 0, .int .i64 9])) rfl) rfl ?_
  refine s_y (y_ext rfl (v := (Vi 0)) rfl) rfl ?_
  refine s_e (e_alloc ze59) rfl ?_
  rintro _ w30 ⟨rfl, hb31, hk32⟩
  have ka33 := (Kp.then0 ka27 hk32)
  refine s_e0 (e_storeV (cs' := #[(Vi 1), (Vi 1), (u8 9), (u8 0), (u8 0), (u8 1), (Vi 80), (Vi 0), (Vi 9)]) [(Vi 1), (Vi 1), (u8 9), (u8 0), (u8 0), (u8 1), (Vi 80), (Vi 0), (Vi 9)] rfl (v := (.agg #[.int .i64 1, .int .i64 1, u8 9, u8 0, u8 0, u8 1, .int .i64 80, .int .i64 0, .int .i64 9])) rfl rfl sz59 hb31 rfl rfl rfl) ?_
  rintro _ w34 ⟨hb35, hk36⟩
  have hz38 := (nl (nl hk4.size hk19.size) (SNx.kp hn26).size)
  have ka37 := (Kp.fresh ka33 hk36 fun _ e => nl (nl hz38 (Nat.le_refl _)) (Nat.le_of_eq e.symm))
  refine s_y (y_assign (v := (Vi 0)) rfl) rfl ?_
  refine s_nil (hK17 _ _ (genC [(1, (Vp g5.tb 0)), (3, (Vp w23.heap.size 0)), (4, (Vi 0))] ⟨g16, rfl, rfl, trivial⟩ ?_))
  clear hK17; rintro E ⟨g39, g40, g41, -⟩
  refine seq fun K42 hK42 => ?_
  refine reg ?_
  refine s_y (y_move (v := (Vp g5.tb 0)) g39) rfl ?_
  refine s_e (e_call ca28 (args := [(.int .u8 1), (Vi 80)]) rfl (peerT_spec 1 80 _)) rfl ?_
  rintro _ w43 ⟨rfl, hk44⟩
  have ka45 := (Kp.then0 ka37 hk44)
  have hni46 : w23.heap.size ∉ sfp g5 s24 := (fun e => Nat.lt_irrefl _ (nt (STab.lt (SNx.tab hn26) _ e) (nl (Nat.le_refl _) (Nat.le_refl _))))
  have hf47 := (STab.k0 (STab.kp (STab.k0 (SNx.tab hn26) hk32) hk36 (fun b hb => (fun e => hni46 (e ▸ hb))) (Nat.ne_of_lt (nt (hf29.lt) (Nat.le_refl _)))) hk44)
  refine s_e (e_call ca27 (args := [(Vp g5.tb 0), (Vi 1), (.agg #[u8 9, u8 0, u8 0, u8 1, .int .i64 80]), (Vi 0), (Vi 9)]) rfl (add_sx hf47 (by decide) 1 ⟨⟨9, 0, 0, 1⟩, 80⟩ 0 9 (by decide) (by decide) (by decide))) rfl ?_
  rintro v48 w49 ⟨s50, hv51, hn52⟩
  rw [sk_2] at hv51 hn52; subst hv51
  have ka53 := (Kp.fresh ka45 (SNx.kp hn52) fun _ e => nl (Nat.le_refl _) (STab.ge (SNx.tab hn26) _ e))
  have hni54 : 0 ∉ sfp g5 s24 := (STab.tbn (SNx.tab hn26))
  have hf55 := ((((hf29.kp hk32 id).kp hk36 (Nat.ne_of_lt (nt (hf29.lt) (Nat.le_refl _)))).kp hk44 id).kp (SNx.kp hn52) hni54)
  refine s_y (y_move (v := (.tuple #[(.agg #[.int .i64 0, .int .i64 0, u8 0, u8 0, u8 0, u8 0, .int .i64 0, .int .i64 0, .int .i64 0]), (Vi 5)])) rfl) rfl ?_
  refine s_y (y_ext rfl (v := (.agg #[.int .i64 0, .int .i64 0, u8 0, u8 0, u8 0, u8 0, .int .i64 0, .int .i64 0, .int .i64 0])) rfl) rfl ?_
  refine s_y (y_ext rfl (v := (Vi 5)) rfl) rfl ?_
  refine s_e (e_alloc ze59) rfl ?_
  rintro _ w56 ⟨rfl, hb57, hk58⟩
  have ka59 := (Kp.then0 ka53 hk58)
  refine s_e0 (e_storeV (cs' := #[(Vi 0), (Vi 0), (u8 0), (u8 0), (u8 0), (u8 0), (Vi 0), (Vi 0), (Vi 0)]) [(Vi 0), (Vi 0), (u8 0), (u8 0), (u8 0), (u8 0), (Vi 0), (Vi 0), (Vi 0)] rfl (v := (.agg #[.int .i64 0, .int .i64 0, u8 0, u8 0, u8 0, u8 0, .int .i64 0, .int .i64 0, .int .i64 0])) rfl rfl sz59 hb57 rfl rfl rfl) ?_
  rintro _ w60 ⟨hb61, hk62⟩
  have hz64 := (nl (nl (nl (nl hz38 hk32.size) hk36.size) hk44.size) (SNx.kp hn52).size)
  have ka63 := (Kp.fresh ka59 hk62 fun _ e => nl (nl hz64 (Nat.le_refl _)) (Nat.le_of_eq e.symm))
  refine s_y (y_assign (v := (Vi 5)) rfl) rfl ?_
  refine s_nil (hK42 _ _ (genC [(1, (Vp g5.tb 0)), (3, (Vp w23.heap.size 0)), (4, (Vi 0)), (6, (Vi 5))] ⟨g39, g40, g41, rfl, trivial⟩ ?_))
  clear hK42; rintro E ⟨g65, g66, g67, g68, -⟩
  refine seq fun K69 hK69 => ?_
  refine reg ?_
  refine s_y (y_move (v := (Vp g5.tb 0)) g65) rfl ?_
  refine s_e (e_call ca28 (args := [(.int .u8 1), (Vi 81)]) rfl (peerT_spec 1 81 _)) rfl ?_
  rintro _ w70 ⟨rfl, hk71⟩
  have ka72 := (Kp.then0 ka63 hk71)
  have hni73 : w49.heap.size ∉ sfp g5 s50 := (fun e => Nat.lt_irrefl _ (nt (STab.lt (SNx.tab hn52) _ e) (nl (Nat.le_refl _) (Nat.le_refl _))))
  have hf74 := (STab.k0 (STab.kp (STab.k0 (SNx.tab hn52) hk58) hk62 (fun b hb => (fun e => hni73 (e ▸ hb))) (Nat.ne_of_lt (nt (hf55.lt) (Nat.le_refl _)))) hk71)
  refine s_e (e_call ca27 (args := [(Vp g5.tb 0), (Vi 1), (.agg #[u8 9, u8 0, u8 0, u8 1, .int .i64 81]), (Vi 5), (Vi 3)]) rfl (add_sx hf74 (by decide) 1 ⟨⟨9, 0, 0, 1⟩, 81⟩ 5 3 (by decide) (by decide) (by decide))) rfl ?_
  rintro v75 w76 ⟨s77, hv78, hn79⟩
  rw [sk_3] at hv78 hn79; subst hv78
  have ka80 := (Kp.fresh ka72 (SNx.kp hn79) fun _ e => nl (Nat.le_refl _) (STab.ge (SNx.tab hn52) _ e))
  have hni81 : 0 ∉ sfp g5 s50 := (STab.tbn (SNx.tab hn52))
  have hf82 := ((((hf55.kp hk58 id).kp hk62 (Nat.ne_of_lt (nt (hf55.lt) (Nat.le_refl _)))).kp hk71 id).kp (SNx.kp hn79) hni81)
  refine s_y (y_move (v := (.tuple #[(.agg #[.int .i64 2, .int .i64 1, u8 9, u8 0, u8 0, u8 1, .int .i64 81, .int .i64 5, .int .i64 3]), (Vi 0)])) rfl) rfl ?_
  refine s_y (y_ext rfl (v := (.agg #[.int .i64 2, .int .i64 1, u8 9, u8 0, u8 0, u8 1, .int .i64 81, .int .i64 5, .int .i64 3])) rfl) rfl ?_
  refine s_y (y_ext rfl (v := (Vi 0)) rfl) rfl ?_
  refine s_e (e_alloc ze59) rfl ?_
  rintro _ w83 ⟨rfl, hb84, hk85⟩
  have ka86 := (Kp.then0 ka80 hk85)
  refine s_e0 (e_storeV (cs' := #[(Vi 2), (Vi 1), (u8 9), (u8 0), (u8 0), (u8 1), (Vi 81), (Vi 5), (Vi 3)]) [(Vi 2), (Vi 1), (u8 9), (u8 0), (u8 0), (u8 1), (Vi 81), (Vi 5), (Vi 3)] rfl (v := (.agg #[.int .i64 2, .int .i64 1, u8 9, u8 0, u8 0, u8 1, .int .i64 81, .int .i64 5, .int .i64 3])) rfl rfl sz59 hb84 rfl rfl rfl) ?_
  rintro _ w87 ⟨hb88, hk89⟩
  have hz91 := (nl (nl (nl (nl hz64 hk58.size) hk62.size) hk71.size) (SNx.kp hn79).size)
  have ka90 := (Kp.fresh ka86 hk89 fun _ e => nl (nl hz91 (Nat.le_refl _)) (Nat.le_of_eq e.symm))
  refine s_y (y_assign (v := (Vi 0)) rfl) rfl ?_
  refine s_nil (hK69 _ _ (genC [(1, (Vp g5.tb 0)), (3, (Vp w23.heap.size 0)), (4, (Vi 0)), (6, (Vi 5)), (7, (Vp w76.heap.size 0)), (8, (Vi 0))] ⟨g65, g66, g67, g68, rfl, rfl, trivial⟩ ?_))
  clear hK69; rintro E ⟨g92, g93, g94, g95, g96, g97, -⟩
  refine seq fun K98 hK98 => ?_
  refine reg ?_
  refine s_y (y_move (v := (Vp g5.tb 0)) g92) rfl ?_
  refine s_e (e_call ca28 (args := [(.int .u8 1), (Vi 81)]) rfl (peerT_spec 1 81 _)) rfl ?_
  rintro _ w99 ⟨rfl, hk100⟩
  have ka101 := (Kp.then0 ka90 hk100)
  have hni102 : w76.heap.size ∉ sfp g5 s77 := (fun e => Nat.lt_irrefl _ (nt (STab.lt (SNx.tab hn79) _ e) (nl (Nat.le_refl _) (Nat.le_refl _))))
  have hf103 := (STab.k0 (STab.kp (STab.k0 (SNx.tab hn79) hk85) hk89 (fun b hb => (fun e => hni102 (e ▸ hb))) (Nat.ne_of_lt (nt (hf82.lt) (Nat.le_refl _)))) hk100)
  refine s_e (e_call ca27 (args := [(Vp g5.tb 0), (Vi 2), (.agg #[u8 9, u8 0, u8 0, u8 1, .int .i64 81]), (Vi 5), (Vi 3)]) rfl (add_sx hf103 (by decide) 2 ⟨⟨9, 0, 0, 1⟩, 81⟩ 5 3 (by decide) (by decide) (by decide))) rfl ?_
  rintro v104 w105 ⟨s106, hv107, hn108⟩
  rw [sk_4] at hv107 hn108; subst hv107
  have ka109 := (Kp.fresh ka101 (SNx.kp hn108) fun _ e => nl (Nat.le_refl _) (STab.ge (SNx.tab hn79) _ e))
  have hni110 : 0 ∉ sfp g5 s77 := (STab.tbn (SNx.tab hn79))
  have hf111 := ((((hf82.kp hk85 id).kp hk89 (Nat.ne_of_lt (nt (hf82.lt) (Nat.le_refl _)))).kp hk100 id).kp (SNx.kp hn108) hni110)
  refine s_y (y_move (v := (.tuple #[(.agg #[.int .i64 0, .int .i64 0, u8 0, u8 0, u8 0, u8 0, .int .i64 0, .int .i64 0, .int .i64 0]), (Vi 6)])) rfl) rfl ?_
  refine s_y (y_ext rfl (v := (.agg #[.int .i64 0, .int .i64 0, u8 0, u8 0, u8 0, u8 0, .int .i64 0, .int .i64 0, .int .i64 0])) rfl) rfl ?_
  refine s_y (y_ext rfl (v := (Vi 6)) rfl) rfl ?_
  refine s_e (e_alloc ze59) rfl ?_
  rintro _ w112 ⟨rfl, hb113, hk114⟩
  have ka115 := (Kp.then0 ka109 hk114)
  refine s_e0 (e_storeV (cs' := #[(Vi 0), (Vi 0), (u8 0), (u8 0), (u8 0), (u8 0), (Vi 0), (Vi 0), (Vi 0)]) [(Vi 0), (Vi 0), (u8 0), (u8 0), (u8 0), (u8 0), (Vi 0), (Vi 0), (Vi 0)] rfl (v := (.agg #[.int .i64 0, .int .i64 0, u8 0, u8 0, u8 0, u8 0, .int .i64 0, .int .i64 0, .int .i64 0])) rfl rfl sz59 hb113 rfl rfl rfl) ?_
  rintro _ w116 ⟨hb117, hk118⟩
  have hz120 := (nl (nl (nl (nl hz91 hk85.size) hk89.size) hk100.size) (SNx.kp hn108).size)
  have ka119 := (Kp.fresh ka115 hk118 fun _ e => nl (nl hz120 (Nat.le_refl _)) (Nat.le_of_eq e.symm))
  refine s_y (y_assign (v := (Vi 6)) rfl) rfl ?_
  refine s_nil (hK98 _ _ (genC [(1, (Vp g5.tb 0)), (3, (Vp w23.heap.size 0)), (4, (Vi 0)), (6, (Vi 5)), (7, (Vp w76.heap.size 0)), (8, (Vi 0)), (10, (Vi 6))] ⟨g92, g93, g94, g95, g96, g97, rfl, trivial⟩ ?_))
  clear hK98; rintro E ⟨g121, g122, g123, g124, g125, g126, g127, -⟩
  refine seq fun K128 hK128 => ?_
  refine reg ?_
  refine s_y (y_move (v := (Vp g5.tb 0)) g121) rfl ?_
  refine s_e (e_call ca28 (args := [(.int .u8 1), (Vi 81)]) rfl (peerT_spec 1 81 _)) rfl ?_
  rintro _ w129 ⟨rfl, hk130⟩
  have ka131 := (Kp.then0 ka119 hk130)
  have hni132 : w105.heap.size ∉ sfp g5 s106 := (fun e => Nat.lt_irrefl _ (nt (STab.lt (SNx.tab hn108) _ e) (nl (Nat.le_refl _) (Nat.le_refl _))))
  have hf133 := (STab.k0 (STab.kp (STab.k0 (SNx.tab hn108) hk114) hk118 (fun b hb => (fun e => hni132 (e ▸ hb))) (Nat.ne_of_lt (nt (hf111.lt) (Nat.le_refl _)))) hk130)
  refine s_e (e_call ca27 (args := [(Vp g5.tb 0), (Vi 2), (.agg #[u8 9, u8 0, u8 0, u8 1, .int .i64 81]), (Vi 5), (Vi (-1))]) rfl (add_sx hf133 (by decide) 2 ⟨⟨9, 0, 0, 1⟩, 81⟩ 5 (-1) (by decide) (by decide) (by decide))) rfl ?_
  rintro v134 w135 ⟨s136, hv137, hn138⟩
  rw [sk_5] at hv137 hn138; subst hv137
  have ka139 := (Kp.fresh ka131 (SNx.kp hn138) fun _ e => nl (Nat.le_refl _) (STab.ge (SNx.tab hn108) _ e))
  have hni140 : 0 ∉ sfp g5 s106 := (STab.tbn (SNx.tab hn108))
  have hf141 := ((((hf111.kp hk114 id).kp hk118 (Nat.ne_of_lt (nt (hf111.lt) (Nat.le_refl _)))).kp hk130 id).kp (SNx.kp hn138) hni140)
  refine s_y (y_move (v := (.tuple #[(.agg #[.int .i64 0, .int .i64 0, u8 0, u8 0, u8 0, u8 0, .int .i64 0, .int .i64 0, .int .i64 0]), (Vi 1)])) rfl) rfl ?_
  refine s_y (y_ext rfl (v := (.agg #[.int .i64 0, .int .i64 0, u8 0, u8 0, u8 0, u8 0, .int .i64 0, .int .i64 0, .int .i64 0])) rfl) rfl ?_
  refine s_y (y_ext rfl (v := (Vi 1)) rfl) rfl ?_
  refine s_e (e_alloc ze59) rfl ?_
  rintro _ w142 ⟨rfl, hb143, hk144⟩
  have ka145 := (Kp.then0 ka139 hk144)
  refine s_e0 (e_storeV (cs' := #[(Vi 0), (Vi 0), (u8 0), (u8 0), (u8 0), (u8 0), (Vi 0), (Vi 0), (Vi 0)]) [(Vi 0), (Vi 0), (u8 0), (u8 0), (u8 0), (u8 0), (Vi 0), (Vi 0), (Vi 0)] rfl (v := (.agg #[.int .i64 0, .int .i64 0, u8 0, u8 0, u8 0, u8 0, .int .i64 0, .int .i64 0, .int .i64 0])) rfl rfl sz59 hb143 rfl rfl rfl) ?_
  rintro _ w146 ⟨hb147, hk148⟩
  have hz150 := (nl (nl (nl (nl hz120 hk114.size) hk118.size) hk130.size) (SNx.kp hn138).size)
  have ka149 := (Kp.fresh ka145 hk148 fun _ e => nl (nl hz150 (Nat.le_refl _)) (Nat.le_of_eq e.symm))
  refine s_y (y_assign (v := (Vi 1)) rfl) rfl ?_
  refine s_nil (hK128 _ _ (genC [(1, (Vp g5.tb 0)), (3, (Vp w23.heap.size 0)), (4, (Vi 0)), (6, (Vi 5)), (7, (Vp w76.heap.size 0)), (8, (Vi 0)), (10, (Vi 6)), (12, (Vi 1))] ⟨g121, g122, g123, g124, g125, g126, g127, rfl, trivial⟩ ?_))
  clear hK128; rintro E ⟨g151, g152, g153, g154, g155, g156, g157, g158, -⟩
  refine seq fun K159 hK159 => ?_
  refine reg ?_
  refine s_y (y_move (v := (Vp g5.tb 0)) g151) rfl ?_
  refine s_e (e_call ca28 (args := [(.int .u8 1), (Vi 0)]) rfl (peerT_spec 1 0 _)) rfl ?_
  rintro _ w160 ⟨rfl, hk161⟩
  have ka162 := (Kp.then0 ka149 hk161)
  refine s_y (y_field (v := (.agg #[u8 9, u8 0, u8 0, u8 1])) rfl (fun _ => by kernel_rfl)) rfl ?_
  have hni163 : w135.heap.size ∉ sfp g5 s136 := (fun e => Nat.lt_irrefl _ (nt (STab.lt (SNx.tab hn138) _ e) (nl (Nat.le_refl _) (Nat.le_refl _))))
  have hf164 := (STab.k0 (STab.kp (STab.k0 (SNx.tab hn138) hk144) hk148 (fun b hb => (fun e => hni163 (e ▸ hb))) (Nat.ne_of_lt (nt (hf141.lt) (Nat.le_refl _)))) hk161)
  refine s_e (e_call ca32 (args := [(Vp g5.tb 0), (Vi 1), (.agg #[u8 9, u8 0, u8 0, u8 1])]) rfl (knows_sx hf164 1 ⟨9, 0, 0, 1⟩ (by decide))) rfl ?_
  rintro v165 w166 ⟨hv168, hk167⟩
  rw [sk_6] at hv168; subst hv168
  have ka169 := (Kp.then0 ka162 hk167)
  refine s_y (y_move (v := Vt) rfl) rfl ?_
  refine s_gy (.yes rfl rfl) (y_move (v := (Vp g5.tb 0)) g151) rfl ?_
  refine s_ge (.yes rfl rfl) (e_call ca28 (args := [(.int .u8 1), (Vi 0)]) rfl (peerT_spec 1 0 _)) rfl ?_
  rintro _ w170 ⟨rfl, hk171⟩
  have ka172 := (Kp.then0 ka169 hk171)
  refine s_gy (.yes rfl rfl) (y_field (v := (.agg #[u8 9, u8 0, u8 0, u8 1])) rfl (fun _ => by kernel_rfl)) rfl ?_
  have hf173 := (STab.k0 (STab.k0 hf164 hk167) hk171)
  refine s_ge (.yes rfl rfl) (e_call ca32 (args := [(Vp g5.tb 0), (Vi 2), (.agg #[u8 9, u8 0, u8 0, u8 1])]) rfl (knows_sx hf173 2 ⟨9, 0, 0, 1⟩ (by decide))) rfl ?_
  rintro v174 w175 ⟨hv177, hk176⟩
  rw [sk_7] at hv177; subst hv177
  have ka178 := (Kp.then0 ka172 hk176)
  refine s_gy (.yes rfl rfl) (y_not rfl) rfl ?_
  refine s_y (y_pick_t rfl (v := Vt) rfl) rfl ?_
  refine s_y (y_move (v := Vt) rfl) rfl ?_
  refine s_gy (.yes rfl rfl) (y_move (v := (Vp g5.tb 0)) g151) rfl ?_
  refine s_ge (.yes rfl rfl) (e_call ca28 (args := [(.int .u8 2), (Vi 0)]) rfl (peerT_spec 2 0 _)) rfl ?_
  rintro _ w179 ⟨rfl, hk180⟩
  have ka181 := (Kp.then0 ka178 hk180)
  refine s_gy (.yes rfl rfl) (y_field (v := (.agg #[u8 9, u8 0, u8 0, u8 2])) rfl (fun _ => by kernel_rfl)) rfl ?_
  have hf182 := (STab.k0 (STab.k0 hf173 hk176) hk180)
  refine s_ge (.yes rfl rfl) (e_call ca32 (args := [(Vp g5.tb 0), (Vi 1), (.agg #[u8 9, u8 0, u8 0, u8 2])]) rfl (knows_sx hf182 1 ⟨9, 0, 0, 2⟩ (by decide))) rfl ?_
  rintro v183 w184 ⟨hv186, hk185⟩
  rw [sk_8] at hv186; subst hv186
  have ka187 := (Kp.then0 ka181 hk185)
  refine s_gy (.yes rfl rfl) (y_not rfl) rfl ?_
  refine s_y (y_pick_t rfl (v := Vt) rfl) rfl ?_
  refine s_y (y_assign (v := Vt) rfl) rfl ?_
  refine s_nil (hK159 _ _ (genC [(1, (Vp g5.tb 0)), (3, (Vp w23.heap.size 0)), (4, (Vi 0)), (6, (Vi 5)), (7, (Vp w76.heap.size 0)), (8, (Vi 0)), (10, (Vi 6)), (12, (Vi 1)), (13, Vt)] ⟨g151, g152, g153, g154, g155, g156, g157, g158, rfl, trivial⟩ ?_))
  clear hK159; rintro E ⟨g188, g189, g190, g191, g192, g193, g194, g195, g196, -⟩
  refine seq fun K197 hK197 => ?_
  refine reg ?_
  refine s_y (y_move (v := (Vp g5.tb 0)) g188) rfl ?_
  have hf198 := (STab.k0 hf182 hk185)
  refine s_e (e_call ca34 (args := [(Vp g5.tb 0), (Vi 1), (Vi 7), (Vi 20)]) rfl (set_sx hf198 1 7 20 (by decide) (by decide))) rfl ?_
  rintro v199 w200 ⟨s201, hv202, hn203⟩
  rw [sk_9] at hv202 hn203; subst hv202
  have ka204 := (Kp.fresh ka187 (SNx.kp hn203) fun _ e => nl (Nat.le_refl _) (STab.ge (SNx.tab hn138) _ e))
  have hni205 : 0 ∉ sfp g5 s136 := (STab.tbn (SNx.tab hn138))
  have hf206 := (((((((((hf141.kp hk144 id).kp hk148 (Nat.ne_of_lt (nt (hf141.lt) (Nat.le_refl _)))).kp hk161 id).kp hk167 id).kp hk171 id).kp hk176 id).kp hk180 id).kp hk185 id).kp (SNx.kp hn203) hni205)
  refine s_y (y_assign (v := (Vi 0)) rfl) rfl ?_
  refine s_nil (hK197 _ _ (genC [(1, (Vp g5.tb 0)), (3, (Vp w23.heap.size 0)), (4, (Vi 0)), (6, (Vi 5)), (7, (Vp w76.heap.size 0)), (8, (Vi 0)), (10, (Vi 6)), (12, (Vi 1)), (13, Vt), (14, (Vi 0))] ⟨g188, g189, g190, g191, g192, g193, g194, g195, g196, rfl, trivial⟩ ?_))
  clear hK197; rintro E ⟨g207, g208, g209, g210, g211, g212, g213, g214, g215, g216, -⟩
  refine seq fun K217 hK217 => ?_
  refine reg ?_
  refine s_y (y_move (v := (Vp g5.tb 0)) g207) rfl ?_
  refine s_e (e_call ca34 (args := [(Vp g5.tb 0), (Vi 1), (Vi 7), (Vi 4611686018427387905)]) rfl (set_sx (SNx.tab hn203) 1 7 4611686018427387905 (by decide) (by decide))) rfl ?_
  rintro v218 w219 ⟨s220, hv221, hn222⟩
  rw [sk_10] at hv221 hn222; subst hv221
  have ka223 := (Kp.fresh ka204 (SNx.kp hn222) fun _ e => nl (Nat.le_refl _) (STab.ge (SNx.tab hn203) _ e))
  have hni224 : 0 ∉ sfp g5 s201 := (STab.tbn (SNx.tab hn203))
  have hf225 := (hf206.kp (SNx.kp hn222) hni224)
  refine s_y (y_assign (v := (Vi 1)) rfl) rfl ?_
  refine s_nil (hK217 _ _ (genC [(1, (Vp g5.tb 0)), (3, (Vp w23.heap.size 0)), (4, (Vi 0)), (6, (Vi 5)), (7, (Vp w76.heap.size 0)), (8, (Vi 0)), (10, (Vi 6)), (12, (Vi 1)), (13, Vt), (14, (Vi 0)), (15, (Vi 1))] ⟨g207, g208, g209, g210, g211, g212, g213, g214, g215, g216, rfl, trivial⟩ ?_))
  clear hK217; rintro E ⟨g226, g227, g228, g229, g230, g231, g232, g233, g234, g235, g236, -⟩
  refine seq fun K237 hK237 => ?_
  refine reg ?_
  refine s_y (y_move (v := (Vp g5.tb 0)) g226) rfl ?_
  refine s_e (e_call ca30 (args := [(Vp g5.tb 0), (Vi 9)]) rfl (pop_sx (SNx.tab hn222) 9)) rfl ?_
  rintro v238 w239 ⟨s240, xs241, hv242, hp243, hs244, hn245⟩
  rw [sk_12] at hp243; obtain rfl := List.perm_singleton.1 hp243; rw [sk_11] at hn245
  obtain ⟨hz9, _⟩ | ⟨rb246, cap247, rfl, hC248, hf249, hni250⟩ := hv242
  · cases hz9
  have ka251 := (Kp.fresh ka223 (SNx.kp hn245) fun _ e => nl (Nat.le_refl _) (STab.ge (SNx.tab hn222) _ e))
  refine s_y (y_assign (v := (.slice (some ⟨rb246, 0, none⟩) 1 cap247)) rfl) rfl ?_
  refine s_nil (hK237 _ _ (genC [(1, (Vp g5.tb 0)), (3, (Vp w23.heap.size 0)), (4, (Vi 0)), (6, (Vi 5)), (7, (Vp w76.heap.size 0)), (8, (Vi 0)), (10, (Vi 6)), (12, (Vi 1)), (13, Vt), (14, (Vi 0)), (15, (Vi 1)), (16, (.slice (some ⟨rb246, 0, none⟩) 1 cap247))] ⟨g226, g227, g228, g229, g230, g231, g232, g233, g234, g235, g236, rfl, trivial⟩ ?_))
  clear hK237; rintro E ⟨g252, g253, g254, g255, g256, g257, g258, g259, g260, g261, g262, g263, -⟩
  refine seq fun K264 hK264 => ?_
  refine reg ?_
  refine s_y (y_move (v := (Vp g5.tb 0)) g252) rfl ?_
  refine s_e (e_call ca28 (args := [(.int .u8 1), (Vi 80)]) rfl (peerT_spec 1 80 _)) rfl ?_
  rintro _ w265 ⟨rfl, hk266⟩
  have ka267 := (Kp.then0 ka251 hk266)
  have hf268 := (STab.k0 (SNx.tab hn245) hk266)
  refine s_e (e_call ca35 (args := [(Vp g5.tb 0), (Vi 1), (.agg #[u8 9, u8 0, u8 0, u8 1, .int .i64 80])]) rfl (find_sx hf268 1 ⟨⟨9, 0, 0, 1⟩, 80⟩ (by decide) (by decide))) rfl ?_
  rintro v269 w270 ⟨hv272, hk271⟩
  rw [sk_13] at hv272; subst hv272
  have ka273 := (Kp.then0 ka267 hk271)
  refine s_y (y_move (v := (.tuple #[(.agg #[.int .i64 1, .int .i64 1, u8 9, u8 0, u8 0, u8 1, .int .i64 80, .int .i64 7, .int .i64 20]), Vt])) rfl) rfl ?_
  refine s_y (y_ext rfl (v := (.agg #[.int .i64 1, .int .i64 1, u8 9, u8 0, u8 0, u8 1, .int .i64 80, .int .i64 7, .int .i64 20])) rfl) rfl ?_
  refine s_y (y_ext rfl (v := Vt) rfl) rfl ?_
  refine s_e (e_alloc ze59) rfl ?_
  rintro _ w274 ⟨rfl, hb275, hk276⟩
  have ka277 := (Kp.then0 ka273 hk276)
  refine s_e0 (e_storeV (cs' := #[(Vi 1), (Vi 1), (u8 9), (u8 0), (u8 0), (u8 1), (Vi 80), (Vi 7), (Vi 20)]) [(Vi 1), (Vi 1), (u8 9), (u8 0), (u8 0), (u8 1), (Vi 80), (Vi 7), (Vi 20)] rfl (v := (.agg #[.int .i64 1, .int .i64 1, u8 9, u8 0, u8 0, u8 1, .int .i64 80, .int .i64 7, .int .i64 20])) rfl rfl sz59 hb275 rfl rfl rfl) ?_
  rintro _ w278 ⟨hb279, hk280⟩
  have hz282 := (nl (nl (nl (nl (nl (nl (nl (nl (nl (nl (nl (nl (nl hz150 hk144.size) hk148.size) hk161.size) hk167.size) hk171.size) hk176.size) hk180.size) hk185.size) (SNx.kp hn203).size) (SNx.kp hn222).size) (SNx.kp hn245).size) hk266.size) hk271.size)
  have ka281 := (Kp.fresh ka277 hk280 fun _ e => nl (nl hz282 (Nat.le_refl _)) (Nat.le_of_eq e.symm))
  refine s_y (y_assign (v := Vt) rfl) rfl ?_
  refine s_nil (hK264 _ _ (genC [(1, (Vp g5.tb 0)), (3, (Vp w23.heap.size 0)), (4, (Vi 0)), (6, (Vi 5)), (7, (Vp w76.heap.size 0)), (8, (Vi 0)), (10, (Vi 6)), (12, (Vi 1)), (13, Vt), (14, (Vi 0)), (15, (Vi 1)), (16, (.slice (some ⟨rb246, 0, none⟩) 1 cap247)), (17, (Vp w270.heap.size 0)), (18, Vt)] ⟨g252, g253, g254, g255, g256, g257, g258, g259, g260, g261, g262, g263, rfl, rfl, trivial⟩ ?_))
  clear hK264; rintro E ⟨g283, g284, g285, g286, g287, g288, g289, g290, g291, g292, g293, g294, g295, g296, -⟩
  refine seq fun K297 hK297 => ?_
  refine reg ?_
  refine s_y (y_move (v := (Vp g5.tb 0)) g283) rfl ?_
  have hni298 : w270.heap.size ∉ sfp g5 s240 := (fun e => Nat.lt_irrefl _ (nt (STab.lt (SNx.tab hn245) _ e) (nl (nl hk266.size hk271.size) (Nat.le_refl _))))
  have hz299 := (nl (nl (SNx.kp hn245).size hk266.size) hk271.size)
  have hf300 := (STab.kp (STab.k0 (STab.k0 hf268 hk271) hk276) hk280 (fun b hb => (fun e => hni298 (e ▸ hb))) (Nat.ne_of_lt (nt (nt (hf225.lt) hz299) (Nat.le_refl _))))
  refine s_e (e_call ca29 (args := [(Vp g5.tb 0), (Vi 2)]) rfl (drop_sx hf300 2 (by decide))) rfl ?_
  rintro v301 w302 ⟨s303, hv304, hn305⟩
  rw [sk_14] at hv304 hn305; subst hv304
  have ka306 := (Kp.fresh ka281 (SNx.kp hn305) fun _ e => nl (Nat.le_refl _) (STab.ge (SNx.tab hn245) _ e))
  have hni307 : 0 ∉ sfp g5 s220 := (STab.tbn (SNx.tab hn222))
  have hni308 : 0 ∉ sfp g5 s240 := (STab.tbn (SNx.tab hn245))
  have hf309 := ((((((hf225.kp (SNx.kp hn245) hni307).kp hk266 id).kp hk271 id).kp hk276 id).kp hk280 (Nat.ne_of_lt (nt (nt (hf225.lt) hz299) (Nat.le_refl _)))).kp (SNx.kp hn305) hni308)
  refine s_y (y_move (v := (.tuple #[(.agg #[.int .i64 0, .int .i64 0, u8 0, u8 0, u8 0, u8 0, .int .i64 0, .int .i64 0, .int .i64 0]), (Vi 4)])) rfl) rfl ?_
  refine s_y (y_ext rfl (v := (.agg #[.int .i64 0, .int .i64 0, u8 0, u8 0, u8 0, u8 0, .int .i64 0, .int .i64 0, .int .i64 0])) rfl) rfl ?_
  refine s_y (y_ext rfl (v := (Vi 4)) rfl) rfl ?_
  refine s_e (e_alloc ze59) rfl ?_
  rintro _ w310 ⟨rfl, hb311, hk312⟩
  have ka313 := (Kp.then0 ka306 hk312)
  refine s_e0 (e_storeV (cs' := #[(Vi 0), (Vi 0), (u8 0), (u8 0), (u8 0), (u8 0), (Vi 0), (Vi 0), (Vi 0)]) [(Vi 0), (Vi 0), (u8 0), (u8 0), (u8 0), (u8 0), (Vi 0), (Vi 0), (Vi 0)] rfl (v := (.agg #[.int .i64 0, .int .i64 0, u8 0, u8 0, u8 0, u8 0, .int .i64 0, .int .i64 0, .int .i64 0])) rfl rfl sz59 hb311 rfl rfl rfl) ?_
  rintro _ w314 ⟨hb315, hk316⟩
  have hz318 := (nl (nl (nl hz282 hk276.size) hk280.size) (SNx.kp hn305).size)
  have ka317 := (Kp.fresh ka313 hk316 fun _ e => nl (nl hz318 (Nat.le_refl _)) (Nat.le_of_eq e.symm))
  refine s_y (y_assign (v := (Vi 4)) rfl) rfl ?_
  refine s_nil (hK297 _ _ (genC [(1, (Vp g5.tb 0)), (3, (Vp w23.heap.size 0)), (4, (Vi 0)), (6, (Vi 5)), (7, (Vp w76.heap.size 0)), (8, (Vi 0)), (10, (Vi 6)), (12, (Vi 1)), (13, Vt), (14, (Vi 0)), (15, (Vi 1)), (16, (.slice (some ⟨rb246, 0, none⟩) 1 cap247)), (17, (Vp w270.heap.size 0)), (18, Vt), (20, (Vi 4))] ⟨g283, g284, g285, g286, g287, g288, g289, g290, g291, g292, g293, g294, g295, g296, rfl, trivial⟩ ?_))
  clear hK297; rintro E ⟨g319, g320, g321, g322, g323, g324, g325, g326, g327, g328, g329, g330, g331, g332, g333, -⟩
  refine seq fun K334 hK334 => ?_
  refine reg ?_
  have hf335 := ((hf309.kp hk312 id).kp hk316 (Nat.ne_of_lt (nt (hf309.lt) (Nat.le_refl _))))
  refine s_e (e_call ca26 (args := [(Vi 0)]) rfl (sesnew_spec (max := 0) (by decide) hf335)) rfl ?_
  intro v9 w336 h9; obtain ⟨rfl, hk337⟩ := new_bad h9 (by decide)
  have ka342 := (Kp.then0 ka317 hk337)
  refine s_y (y_move (v := (.tuple #[(.pointer none), (Vi 1)])) rfl) rfl ?_
  refine s_y (y_ext rfl (v := (.pointer none)) rfl) rfl ?_
  refine s_y (y_ext rfl (v := (Vi 1)) rfl) rfl ?_
  refine s_y (y_assign (v := (.pointer none)) rfl) rfl ?_
  refine s_y (y_assign (v := (Vi 1)) rfl) rfl ?_
  refine s_nil (hK334 _ _ (genC [(1, (Vp g5.tb 0)), (3, (Vp w23.heap.size 0)), (4, (Vi 0)), (6, (Vi 5)), (7, (Vp w76.heap.size 0)), (8, (Vi 0)), (10, (Vi 6)), (12, (Vi 1)), (13, Vt), (14, (Vi 0)), (15, (Vi 1)), (16, (.slice (some ⟨rb246, 0, none⟩) 1 cap247)), (17, (Vp w270.heap.size 0)), (18, Vt), (20, (Vi 4)), (22, (Vi 1))] ⟨g319, g320, g321, g322, g323, g324, g325, g326, g327, g328, g329, g330, g331, g332, g333, rfl, trivial⟩ ?_))
  clear hK334; rintro E ⟨g343, g344, g345, g346, g347, g348, g349, g350, g351, g352, g353, g354, g355, g356, g357, g358, -⟩
  refine seq fun K359 hK359 => ?_
  refine reg ?_
  have hf360 := (hf335.kp hk337 id)
  refine s_e (e_call ca26 (args := [(Vi 65537)]) rfl (sesnew_spec (max := 65537) (by decide) hf360)) rfl ?_
  intro v9 w361 h9; obtain ⟨rfl, hk362⟩ := new_bad h9 (by decide)
  have ka367 := (Kp.then0 ka342 hk362)
  refine s_y (y_move (v := (.tuple #[(.pointer none), (Vi 1)])) rfl) rfl ?_
  refine s_y (y_ext rfl (v := (.pointer none)) rfl) rfl ?_
  refine s_y (y_ext rfl (v := (Vi 1)) rfl) rfl ?_
  refine s_y (y_assign (v := (.pointer none)) rfl) rfl ?_
  refine s_y (y_assign (v := (Vi 1)) rfl) rfl ?_
  refine s_nil (hK359 _ _ (genC [(1, (Vp g5.tb 0)), (3, (Vp w23.heap.size 0)), (4, (Vi 0)), (6, (Vi 5)), (7, (Vp w76.heap.size 0)), (8, (Vi 0)), (10, (Vi 6)), (12, (Vi 1)), (13, Vt), (14, (Vi 0)), (15, (Vi 1)), (16, (.slice (some ⟨rb246, 0, none⟩) 1 cap247)), (17, (Vp w270.heap.size 0)), (18, Vt), (20, (Vi 4)), (22, (Vi 1)), (24, (Vi 1))] ⟨g343, g344, g345, g346, g347, g348, g349, g350, g351, g352, g353, g354, g355, g356, g357, g358, rfl, trivial⟩ ?_))
  clear hK359; rintro E ⟨g368, g369, g370, g371, g372, g373, g374, g375, g376, g377, g378, g379, g380, g381, g382, g383, g384, -⟩
  refine seq fun K385 hK385 => ?_
  refine reg ?_
  refine s_y (y_move (v := (Vi 0)) g370) rfl ?_
  refine s_y (y_eql rfl rfl) rfl ?_
  refine s_y (y_move (v := Vt) rfl) rfl ?_
  refine s_gy (.yes rfl rfl) (y_fld fo59_0 g369) rfl ?_
  have hni386 : w23.heap.size ∉ sfp g5 s50 := (SNx.notin hn52 hni46 (nt (lt_of_get hb35) hk44.size))
  have hz387 := (nl (nl (nl (nl (nl hk44.size (SNx.kp hn52).size) hk58.size) hk62.size) hk71.size) (SNx.kp hn79).size)
  have hz388 := (nl (nl (nl (nl hk44.size (SNx.kp hn52).size) hk58.size) hk62.size) hk71.size)
  have hni389 : w23.heap.size ∉ sfp g5 s77 := (SNx.notin hn79 hni386 (nt (lt_of_get hb35) hz388))
  have hz390 := (nl (nl (nl (nl hz387 hk85.size) hk89.size) hk100.size) (SNx.kp hn108).size)
  have hz391 := (nl (nl (nl hz387 hk85.size) hk89.size) hk100.size)
  have hni392 : w23.heap.size ∉ sfp g5 s106 := (SNx.notin hn108 hni389 (nt (lt_of_get hb35) hz391))
  have hz393 := (nl (nl (nl (nl hz390 hk114.size) hk118.size) hk130.size) (SNx.kp hn138).size)
  have hz394 := (nl (nl (nl hz390 hk114.size) hk118.size) hk130.size)
  have hni395 : w23.heap.size ∉ sfp g5 s136 := (SNx.notin hn138 hni392 (nt (lt_of_get hb35) hz394))
  have hz396 := (nl (nl (nl (nl (nl (nl (nl (nl hz393 hk144.size) hk148.size) hk161.size) hk167.size) hk171.size) hk176.size) hk180.size) hk185.size)
  have hni397 : w23.heap.size ∉ sfp g5 s201 := (SNx.notin hn203 hni395 (nt (lt_of_get hb35) hz396))
  have hni398 : w23.heap.size ∉ sfp g5 s220 := (SNx.notin hn222 hni397 (nt (lt_of_get hb35) (nl hz396 (SNx.kp hn203).size)))
  have hz399 := (nl (nl (nl (nl (nl hz396 (SNx.kp hn203).size) (SNx.kp hn222).size) (SNx.kp hn245).size) hk266.size) hk271.size)
  have hz400 := (nl (nl hz396 (SNx.kp hn203).size) (SNx.kp hn222).size)
  have hni401 : w23.heap.size ∉ sfp g5 s240 := (SNx.notin hn245 hni398 (nt (lt_of_get hb35) hz400))
  have hz402 := (nl (nl (nl hz399 hk276.size) hk280.size) (SNx.kp hn305).size)
  have hb403 := (hk362.get0 (hk337.get0 (hk316.get (hk312.get0 ((SNx.kp hn305).get (hk280.get (hk276.get0 (hk271.get0 (hk266.get0 ((SNx.kp hn245).get ((SNx.kp hn222).get ((SNx.kp hn203).get (hk185.get0 (hk180.get0 (hk176.get0 (hk171.get0 (hk167.get0 (hk161.get0 (hk148.get (hk144.get0 ((SNx.kp hn138).get (hk130.get0 (hk118.get (hk114.get0 ((SNx.kp hn108).get (hk100.get0 (hk89.get (hk85.get0 ((SNx.kp hn79).get (hk71.get0 (hk62.get (hk58.get0 ((SNx.kp hn52).get (hk44.get0 hb35) hni46)) (Nat.ne_of_lt (nt (nt (lt_of_get hb35) (nl hk44.size (SNx.kp hn52).size)) (Nat.le_refl _))))) hni386)) (Nat.ne_of_lt (nt (nt (lt_of_get hb35) hz387) (Nat.le_refl _))))) hni389)) (Nat.ne_of_lt (nt (nt (lt_of_get hb35) hz390) (Nat.le_refl _))))) hni392)) (Nat.ne_of_lt (nt (nt (lt_of_get hb35) hz393) (Nat.le_refl _)))))))))) hni395) hni397) hni398)))) (Nat.ne_of_lt (nt (nt (lt_of_get hb35) hz399) (Nat.le_refl _)))) hni401)) (Nat.ne_of_lt (nt (nt (lt_of_get hb35) hz402) (Nat.le_refl _))))))
  refine s_gy (.yes rfl rfl) (y_load (v := (Vi 1)) rfl (rd_sc sc3 (On.now hb403) rfl)) rfl ?_
  refine s_gy (.yes rfl rfl) (y_eql rfl rfl) rfl ?_
  refine s_y (y_pick_t rfl (v := Vt) rfl) rfl ?_
  refine s_y (y_move (v := Vt) rfl) rfl ?_
  refine s_gy (.yes rfl rfl) (y_move (v := (Vi 5)) g371) rfl ?_
  refine s_gy (.yes rfl rfl) (y_eql rfl rfl) rfl ?_
  refine s_y (y_pick_t rfl (v := Vt) rfl) rfl ?_
  refine s_y (y_move (v := Vt) rfl) rfl ?_
  refine s_gy (.yes rfl rfl) (y_move (v := (Vi 0)) g373) rfl ?_
  refine s_gy (.yes rfl rfl) (y_eql rfl rfl) rfl ?_
  refine s_y (y_pick_t rfl (v := Vt) rfl) rfl ?_
  refine s_y (y_move (v := Vt) rfl) rfl ?_
  refine s_gy (.yes rfl rfl) (y_fld fo59_0 g372) rfl ?_
  have hni404 : w76.heap.size ∉ sfp g5 s106 := (SNx.notin hn108 hni102 (nt (lt_of_get hb88) hk100.size))
  have hz405 := (nl (nl (nl (nl (nl hk100.size (SNx.kp hn108).size) hk114.size) hk118.size) hk130.size) (SNx.kp hn138).size)
  have hz406 := (nl (nl (nl (nl hk100.size (SNx.kp hn108).size) hk114.size) hk118.size) hk130.size)
  have hni407 : w76.heap.size ∉ sfp g5 s136 := (SNx.notin hn138 hni404 (nt (lt_of_get hb88) hz406))
  have hz408 := (nl (nl (nl (nl (nl (nl (nl (nl hz405 hk144.size) hk148.size) hk161.size) hk167.size) hk171.size) hk176.size) hk180.size) hk185.size)
  have hni409 : w76.heap.size ∉ sfp g5 s201 := (SNx.notin hn203 hni407 (nt (lt_of_get hb88) hz408))
  have hni410 : w76.heap.size ∉ sfp g5 s220 := (SNx.notin hn222 hni409 (nt (lt_of_get hb88) (nl hz408 (SNx.kp hn203).size)))
  have hz411 := (nl (nl (nl (nl (nl hz408 (SNx.kp hn203).size) (SNx.kp hn222).size) (SNx.kp hn245).size) hk266.size) hk271.size)
  have hz412 := (nl (nl hz408 (SNx.kp hn203).size) (SNx.kp hn222).size)
  have hni413 : w76.heap.size ∉ sfp g5 s240 := (SNx.notin hn245 hni410 (nt (lt_of_get hb88) hz412))
  have hz414 := (nl (nl (nl hz411 hk276.size) hk280.size) (SNx.kp hn305).size)
  have hb415 := (hk362.get0 (hk337.get0 (hk316.get (hk312.get0 ((SNx.kp hn305).get (hk280.get (hk276.get0 (hk271.get0 (hk266.get0 ((SNx.kp hn245).get ((SNx.kp hn222).get ((SNx.kp hn203).get (hk185.get0 (hk180.get0 (hk176.get0 (hk171.get0 (hk167.get0 (hk161.get0 (hk148.get (hk144.get0 ((SNx.kp hn138).get (hk130.get0 (hk118.get (hk114.get0 ((SNx.kp hn108).get (hk100.get0 hb88) hni102)) (Nat.ne_of_lt (nt (nt (lt_of_get hb88) (nl hk100.size (SNx.kp hn108).size)) (Nat.le_refl _))))) hni404)) (Nat.ne_of_lt (nt (nt (lt_of_get hb88) hz405) (Nat.le_refl _)))))))))) hni407) hni409) hni410)))) (Nat.ne_of_lt (nt (nt (lt_of_get hb88) hz411) (Nat.le_refl _)))) hni413)) (Nat.ne_of_lt (nt (nt (lt_of_get hb88) hz414) (Nat.le_refl _))))))
  refine s_gy (.yes rfl rfl) (y_load (v := (Vi 2)) rfl (rd_sc sc3 (On.now hb415) rfl)) rfl ?_
  refine s_gy (.yes rfl rfl) (y_eql rfl rfl) rfl ?_
  refine s_y (y_pick_t rfl (v := Vt) rfl) rfl ?_
  refine s_y (y_move (v := Vt) rfl) rfl ?_
  refine s_gy (.yes rfl rfl) (y_move (v := (Vi 6)) g374) rfl ?_
  refine s_gy (.yes rfl rfl) (y_eql rfl rfl) rfl ?_
  refine s_y (y_pick_t rfl (v := Vt) rfl) rfl ?_
  refine s_y (y_move (v := Vt) rfl) rfl ?_
  refine s_gy (.yes rfl rfl) (y_move (v := (Vi 1)) g375) rfl ?_
  refine s_gy (.yes rfl rfl) (y_eql rfl rfl) rfl ?_
  refine s_y (y_pick_t rfl (v := Vt) rfl) rfl ?_
  refine s_y (y_move (v := Vt) rfl) rfl ?_
  refine s_gy (.yes rfl rfl) (y_move (v := Vt) g376) rfl ?_
  refine s_y (y_pick_t rfl (v := Vt) rfl) rfl ?_
  refine s_y (y_assign (v := Vt) rfl) rfl ?_
  refine s_nil (hK385 _ _ (genC [(1, (Vp g5.tb 0)), (7, (Vp w76.heap.size 0)), (14, (Vi 0)), (15, (Vi 1)), (16, (.slice (some ⟨rb246, 0, none⟩) 1 cap247)), (17, (Vp w270.heap.size 0)), (18, Vt), (20, (Vi 4)), (22, (Vi 1)), (24, (Vi 1)), (25, Vt)] ⟨g368, g372, g377, g378, g379, g380, g381, g382, g383, g384, rfl, trivial⟩ ?_))
  clear hK385; rintro E ⟨g416, g417, g418, g419, g420, g421, g422, g423, g424, g425, g426, -⟩
  refine seq fun K427 hK427 => ?_
  refine regD (fun _ => False) (.take 0 (.take 1 (.take 2 (.take 3 (.take 4 (.take 5 (.take 6 (.take 7 (.take 8 (.take 9 (.take 10 (.take 11 (.take 12 (.take 13 (.take 14 (.take 15 (.take 16 (.take 17 (.take 18 (.take 19 (.take 20 (.take 21 (.take 22 (.one 23 (.take 24 (.take 25 (.take 26 (.take 27 (.take 28 (.take 29 (.take 30 (.take 31 (.take 32 (.one 33 (.take 34 (.take 35 (.take 36 .done))))))))))))))))))))))))))))))))))))) mixed (by kernel_rfl) fun w428 hh429 hk430 => ?_
  have ka431 := (Kp.then0 ka367 hk430)
  refine o_y rfl (y_move (v := (Vi 0)) g418) ?_
  refine o_y rfl (y_eql rfl rfl) ?_
  refine o_y rfl (y_move (v := Vt) rfl) ?_
  refine o_gy rfl (.yes rfl rfl) (y_move (v := (Vi 1)) g419) ?_
  refine o_gy rfl (.yes rfl rfl) (y_eql rfl rfl) ?_
  refine o_y rfl (y_pick_t rfl (v := Vt) rfl) ?_
  refine o_y rfl (y_move (v := Vt) rfl) ?_
  refine o_gy rfl (.yes rfl rfl) (y_move (v := (.slice (some ⟨rb246, 0, none⟩) 1 cap247)) g420) ?_
  refine o_gy rfl (.yes rfl rfl) (y_lenS so63 rfl) ?_
  refine o_gy rfl (.yes rfl rfl) (y_eql rfl rfl) ?_
  refine o_y rfl (y_pick_t rfl (v := (.bool (decide ((((1 : Nat) : Int) : Int) = 1)))) rfl) ?_
  refine o_y rfl (y_move (v := (.bool (decide ((((1 : Nat) : Int) : Int) = 1)))) rfl) ?_
  by_cases c432 : (((1 : Nat) : Int) : Int) = 1
  · refine o_gy rfl (.yes rfl (congrArg Value.bool (decide_eq_true c432))) (y_move (v := (.slice (some ⟨rb246, 0, none⟩) 1 cap247)) g420) ?_
    refine o_gy rfl (.yes rfl (congrArg Value.bool (decide_eq_true c432))) (y_idx so63 sz59 rfl (i := 0) rfl (by omega)) ?_
    have hz433 := (nl (nl (nl (nl hk266.size hk271.size) hk276.size) hk280.size) (SNx.kp hn305).size)
    refine o_gy rfl (.yes rfl (congrArg Value.bool (decide_eq_true c432))) (y_load (v := (.agg #[.int .i64 ((⟨2, 1, ⟨⟨9, 0, 0, 1⟩, 81⟩, 5, 3⟩ : Session).id), .int .i64 ((⟨2, 1, ⟨⟨9, 0, 0, 1⟩, 81⟩, 5, 3⟩ : Session).binding), u8 (((⟨2, 1, ⟨⟨9, 0, 0, 1⟩, 81⟩, 5, 3⟩ : Session).peer).addr).a, u8 (((⟨2, 1, ⟨⟨9, 0, 0, 1⟩, 81⟩, 5, 3⟩ : Session).peer).addr).b, u8 (((⟨2, 1, ⟨⟨9, 0, 0, 1⟩, 81⟩, 5, 3⟩ : Session).peer).addr).c, u8 (((⟨2, 1, ⟨⟨9, 0, 0, 1⟩, 81⟩, 5, 3⟩ : Session).peer).addr).d, .int .i64 (((⟨2, 1, ⟨⟨9, 0, 0, 1⟩, 81⟩, 5, 3⟩ : Session).peer).port), .int .i64 ((⟨2, 1, ⟨⟨9, 0, 0, 1⟩, 81⟩, 5, 3⟩ : Session).state), .int .i64 ((⟨2, 1, ⟨⟨9, 0, 0, 1⟩, 81⟩, 5, 3⟩ : Session).due)])) rfl (rd_el ag59 (EltsOn.kp (OwnC.elts ((((((((((hC248.kp hk266 id).kp hk271 id).kp hk276 id).kp hk280 (Nat.ne_of_lt (nt (nt (hC248.lt) (nl hk266.size hk271.size)) (Nat.le_refl _)))).kp (SNx.kp hn305) hni250).kp hk312 id).kp hk316 (Nat.ne_of_lt (nt (nt (hC248.lt) hz433) (Nat.le_refl _)))).kp hk337 id).kp hk362 id).kp hk430 id)) id) rfl (vs := [(Vi ((⟨2, 1, ⟨⟨9, 0, 0, 1⟩, 81⟩, 5, 3⟩ : Session).id)), (Vi ((⟨2, 1, ⟨⟨9, 0, 0, 1⟩, 81⟩, 5, 3⟩ : Session).binding)), (u8 (((⟨2, 1, ⟨⟨9, 0, 0, 1⟩, 81⟩, 5, 3⟩ : Session).peer).addr).a), (u8 (((⟨2, 1, ⟨⟨9, 0, 0, 1⟩, 81⟩, 5, 3⟩ : Session).peer).addr).b), (u8 (((⟨2, 1, ⟨⟨9, 0, 0, 1⟩, 81⟩, 5, 3⟩ : Session).peer).addr).c), (u8 (((⟨2, 1, ⟨⟨9, 0, 0, 1⟩, 81⟩, 5, 3⟩ : Session).peer).addr).d), (Vi (((⟨2, 1, ⟨⟨9, 0, 0, 1⟩, 81⟩, 5, 3⟩ : Session).peer).port)), (Vi ((⟨2, 1, ⟨⟨9, 0, 0, 1⟩, 81⟩, 5, 3⟩ : Session).state)), (Vi ((⟨2, 1, ⟨⟨9, 0, 0, 1⟩, 81⟩, 5, 3⟩ : Session).due))]) rfl)) ?_
    refine o_gy rfl (.yes rfl (congrArg Value.bool (decide_eq_true c432))) (y_load (v := (sv (⟨2, 1, (⟨(⟨9, 0, 0, 1⟩ : V4), 81⟩ : T4), 5, 3⟩ : Session))) g417 (rd_agg (vs := [(Vi 2), (Vi 1), (u8 9), (u8 0), (u8 0), (u8 1), (Vi 81), (Vi 5), (Vi 3)]) ag59 (On.kp (hk430.get0 hb415) id) (by kernel_rfl) rfl)) ?_
    refine o_gy rfl (.yes rfl (congrArg Value.bool (decide_eq_true c432))) (y_eqT (eq59 9996) eg59 (x := (⟨(⟨2, 1, ⟨⟨9, 0, 0, 1⟩, 81⟩, 5, 3⟩ : Session).id, (⟨2, 1, ⟨⟨9, 0, 0, 1⟩, 81⟩, 5, 3⟩ : Session).binding, (⟨(((⟨2, 1, ⟨⟨9, 0, 0, 1⟩, 81⟩, 5, 3⟩ : Session).peer).addr), ((⟨2, 1, ⟨⟨9, 0, 0, 1⟩, 81⟩, 5, 3⟩ : Session).peer).port⟩ : T4), (⟨2, 1, ⟨⟨9, 0, 0, 1⟩, 81⟩, 5, 3⟩ : Session).state, (⟨2, 1, ⟨⟨9, 0, 0, 1⟩, 81⟩, 5, 3⟩ : Session).due⟩ : Session)) (y := (⟨2, 1, (⟨(⟨9, 0, 0, 1⟩ : V4), 81⟩ : T4), 5, 3⟩ : Session)) rfl rfl ⟨_, rfl⟩ ⟨_, rfl⟩) ?_
    refine o_y rfl (y_pick_t (congrArg Value.bool (decide_eq_true c432)) (v := (.bool (decide ((⟨(⟨2, 1, ⟨⟨9, 0, 0, 1⟩, 81⟩, 5, 3⟩ : Session).id, (⟨2, 1, ⟨⟨9, 0, 0, 1⟩, 81⟩, 5, 3⟩ : Session).binding, (⟨(((⟨2, 1, ⟨⟨9, 0, 0, 1⟩, 81⟩, 5, 3⟩ : Session).peer).addr), ((⟨2, 1, ⟨⟨9, 0, 0, 1⟩, 81⟩, 5, 3⟩ : Session).peer).port⟩ : T4), (⟨2, 1, ⟨⟨9, 0, 0, 1⟩, 81⟩, 5, 3⟩ : Session).state, (⟨2, 1, ⟨⟨9, 0, 0, 1⟩, 81⟩, 5, 3⟩ : Session).due⟩ : Session) = (⟨2, 1, (⟨(⟨9, 0, 0, 1⟩ : V4), 81⟩ : T4), 5, 3⟩ : Session))))) rfl) ?_
    refine o_y rfl (y_move (v := (.bool (decide ((⟨(⟨2, 1, ⟨⟨9, 0, 0, 1⟩, 81⟩, 5, 3⟩ : Session).id, (⟨2, 1, ⟨⟨9, 0, 0, 1⟩, 81⟩, 5, 3⟩ : Session).binding, (⟨(((⟨2, 1, ⟨⟨9, 0, 0, 1⟩, 81⟩, 5, 3⟩ : Session).peer).addr), ((⟨2, 1, ⟨⟨9, 0, 0, 1⟩, 81⟩, 5, 3⟩ : Session).peer).port⟩ : T4), (⟨2, 1, ⟨⟨9, 0, 0, 1⟩, 81⟩, 5, 3⟩ : Session).state, (⟨2, 1, ⟨⟨9, 0, 0, 1⟩, 81⟩, 5, 3⟩ : Session).due⟩ : Session) = (⟨2, 1, (⟨(⟨9, 0, 0, 1⟩ : V4), 81⟩ : T4), 5, 3⟩ : Session))))) rfl) ?_
    by_cases c434 : (⟨(⟨2, 1, ⟨⟨9, 0, 0, 1⟩, 81⟩, 5, 3⟩ : Session).id, (⟨2, 1, ⟨⟨9, 0, 0, 1⟩, 81⟩, 5, 3⟩ : Session).binding, (⟨(((⟨2, 1, ⟨⟨9, 0, 0, 1⟩, 81⟩, 5, 3⟩ : Session).peer).addr), ((⟨2, 1, ⟨⟨9, 0, 0, 1⟩, 81⟩, 5, 3⟩ : Session).peer).port⟩ : T4), (⟨2, 1, ⟨⟨9, 0, 0, 1⟩, 81⟩, 5, 3⟩ : Session).state, (⟨2, 1, ⟨⟨9, 0, 0, 1⟩, 81⟩, 5, 3⟩ : Session).due⟩ : Session) = (⟨2, 1, (⟨(⟨9, 0, 0, 1⟩ : V4), 81⟩ : T4), 5, 3⟩ : Session)
    · refine o_gy rfl (.yes rfl (congrArg Value.bool (decide_eq_true c434))) (y_move (v := Vt) g422) ?_
      refine o_y rfl (y_pick_t (congrArg Value.bool (decide_eq_true c434)) (v := Vt) rfl) ?_
      refine o_y rfl (y_move (v := Vt) rfl) ?_
      refine o_gy rfl (.yes rfl rfl) (y_load (v := (sv (⟨1, 1, (⟨(⟨9, 0, 0, 1⟩ : V4), 80⟩ : T4), 7, 20⟩ : Session))) g421 (rd_agg (vs := [(Vi 1), (Vi 1), (u8 9), (u8 0), (u8 0), (u8 1), (Vi 80), (Vi 7), (Vi 20)]) ag59 (On.kp (hk430.get0 (hk362.get0 (hk337.get0 (hk316.get (hk312.get0 ((SNx.kp hn305).get hb279 hni298)) (Nat.ne_of_lt (nt (nt (lt_of_get hb279) (SNx.kp hn305).size) (Nat.le_refl _))))))) id) (by kernel_rfl) rfl)) ?_
      refine o_one ?_
      refine c_ge rfl (.yes rfl rfl) (e_call ca28 (args := [(.int .u8 1), (Vi 80)]) rfl (peerT_spec 1 80 _)) ?_
      rintro _ w435 ⟨rfl, hk436⟩
      have ka437 := (Kp.then0 ka431 hk436)
      have ks438 : Kp (fun _ => False) w428 w435 := (Kp.then0 (Kp.refl _ _) hk436)
      refine ⟨ks438, ?_⟩
      refine o_gy rfl (.yes rfl rfl) (y_build (vs := [(0, (Vi 1)), (1, (Vi 1)), (2, (.agg #[u8 9, u8 0, u8 0, u8 1, .int .i64 80])), (3, (Vi 7)), (4, (Vi 20))]) (v := (.agg #[.int .i64 1, .int .i64 1, u8 9, u8 0, u8 0, u8 1, .int .i64 80, .int .i64 7, .int .i64 20])) rfl (fun _ => by kernel_rfl)) ?_
      refine o_gy rfl (.yes rfl rfl) (y_eqT (eq59 9996) eg59 (x := (⟨1, 1, (⟨(⟨9, 0, 0, 1⟩ : V4), 80⟩ : T4), 7, 20⟩ : Session)) (y := (⟨1, 1, (⟨(⟨9, 0, 0, 1⟩ : V4), 80⟩ : T4), 7, 20⟩ : Session)) rfl rfl ⟨_, rfl⟩ ⟨_, rfl⟩) ?_
      refine o_y rfl (y_pick_t rfl (v := (.bool (decide ((⟨1, 1, (⟨(⟨9, 0, 0, 1⟩ : V4), 80⟩ : T4), 7, 20⟩ : Session) = (⟨1, 1, (⟨(⟨9, 0, 0, 1⟩ : V4), 80⟩ : T4), 7, 20⟩ : Session))))) rfl) ?_
      refine o_y rfl (y_move (v := (.bool (decide ((⟨1, 1, (⟨(⟨9, 0, 0, 1⟩ : V4), 80⟩ : T4), 7, 20⟩ : Session) = (⟨1, 1, (⟨(⟨9, 0, 0, 1⟩ : V4), 80⟩ : T4), 7, 20⟩ : Session))))) rfl) ?_
      by_cases c439 : (⟨1, 1, (⟨(⟨9, 0, 0, 1⟩ : V4), 80⟩ : T4), 7, 20⟩ : Session) = (⟨1, 1, (⟨(⟨9, 0, 0, 1⟩ : V4), 80⟩ : T4), 7, 20⟩ : Session)
      · refine o_gy rfl (.yes rfl (congrArg Value.bool (decide_eq_true c439))) (y_move (v := (Vi 4)) g423) ?_
        refine o_gy rfl (.yes rfl (congrArg Value.bool (decide_eq_true c439))) (y_eql rfl rfl) ?_
        refine o_y rfl (y_pick_t (congrArg Value.bool (decide_eq_true c439)) (v := Vt) rfl) ?_
        refine o_y rfl (y_move (v := Vt) rfl) ?_
        refine o_gy rfl (.yes rfl rfl) (y_move (v := (Vp g5.tb 0)) g416) ?_
        refine o_one ?_
        have hni440 : w302.heap.size ∉ sfp g5 s303 := (fun e => Nat.lt_irrefl _ (nt (STab.lt (SNx.tab hn305) _ e) (nl (Nat.le_refl _) (Nat.le_refl _))))
        have hf441 := (STab.k0 (STab.k0 (STab.k0 (STab.k0 (STab.kp (STab.k0 (SNx.tab hn305) hk312) hk316 (fun b hb => (fun e => hni440 (e ▸ hb))) (Nat.ne_of_lt (nt (hf309.lt) (Nat.le_refl _)))) hk337) hk362) hk430) hk436)
        refine c_ge rfl (.yes rfl rfl) (e_call ca33 (args := [(Vp g5.tb 0)]) rfl (len_sx hf441)) ?_
        rintro _ w442 ⟨rfl, hk443⟩
        have ka444 := (Kp.then0 ka437 hk443)
        have ks445 := (Kp.then0 ks438 hk443)
        refine ⟨ks445, ?_⟩
        refine o_gy rfl (.yes rfl rfl) (y_eql rfl rfl) ?_
        refine o_y rfl (y_pick_t rfl (v := Vt) rfl) ?_
        refine o_y rfl (y_assign (v := Vt) rfl) ?_
        refine o_done (hK427 _ _ (genC [(1, (Vp g5.tb 0)), (22, (Vi 1)), (24, (Vi 1)), (25, Vt), (26, Vt)] ⟨g416, g424, g425, g426, rfl, trivial⟩ ?_))
        clear hK427; rintro E ⟨g446, g447, g448, g449, g450, -⟩
        refine seq fun K451 hK451 => ?_
        refine reg ?_
        refine s_y (y_move (v := Vt) g449) rfl ?_
        refine s_y (y_move (v := Vt) rfl) rfl ?_
        refine s_gy (.yes rfl rfl) (y_move (v := Vt) g450) rfl ?_
        refine s_y (y_pick_t rfl (v := Vt) rfl) rfl ?_
        refine s_y (y_move (v := Vt) rfl) rfl ?_
        refine s_gy (.yes rfl rfl) (y_move (v := (Vi 1)) g447) rfl ?_
        refine s_gy (.yes rfl rfl) (y_eql rfl rfl) rfl ?_
        refine s_y (y_pick_t rfl (v := Vt) rfl) rfl ?_
        refine s_y (y_move (v := Vt) rfl) rfl ?_
        refine s_gy (.yes rfl rfl) (y_move (v := (Vi 1)) g448) rfl ?_
        refine s_gy (.yes rfl rfl) (y_eql rfl rfl) rfl ?_
        refine s_y (y_pick_t rfl (v := Vt) rfl) rfl ?_
        refine s_y (y_move (v := Vt) rfl) rfl ?_
        refine s_gy (.yes rfl rfl) (y_move (v := (Vp g5.tb 0)) g446) rfl ?_
        have hf452 := (STab.k0 hf441 hk443)
        refine s_ge (.yes rfl rfl) (e_call ca31 (args := [(Vp g5.tb 0), (Vi 1)]) rfl (of_sx hf452 1 (by decide))) rfl ?_
        rintro v453 w454 ⟨⟨ys455, hp456, -, hv457⟩, hk458⟩
        have hn461 := List.Perm.length_eq hp456; rw [sk_15] at hn461; obtain ⟨p459, c460, rfl⟩ := SesV.len hv457 hn461
        have ka462 := (Kp.then0 ka444 hk458)
        refine s_gy (.yes rfl rfl) (y_lenS so63 rfl) rfl ?_
        refine s_gy (.yes rfl rfl) (y_eql rfl rfl) rfl ?_
        refine s_y (y_pick_t rfl (v := (.bool (decide ((((1 : Nat) : Int) : Int) = 1)))) rfl) rfl ?_
        refine s_y (y_move (v := (.bool (decide ((((1 : Nat) : Int) : Int) = 1)))) rfl) rfl ?_
        by_cases c463 : (((1 : Nat) : Int) : Int) = 1
        · refine s_gy (.yes rfl (congrArg Value.bool (decide_eq_true c463))) (y_move (v := (Vp g5.tb 0)) g446) rfl ?_
          have hf464 := (STab.k0 hf452 hk458)
          refine s_ge (.yes rfl (congrArg Value.bool (decide_eq_true c463))) (e_call ca31 (args := [(Vp g5.tb 0), (Vi 9)]) rfl (of_sx hf464 9 (by decide))) rfl ?_
          rintro v465 w466 ⟨⟨ys467, hp468, -, hv469⟩, hk470⟩
          have hn473 := List.Perm.length_eq hp468; rw [sk_16] at hn473; obtain ⟨p471, c472, rfl⟩ := SesV.len hv469 hn473
          have ka474 := (Kp.then0 ka462 hk470)
          refine s_gy (.yes rfl (congrArg Value.bool (decide_eq_true c463))) (y_lenS so63 rfl) rfl ?_
          refine s_gy (.yes rfl (congrArg Value.bool (decide_eq_true c463))) (y_eql rfl rfl) rfl ?_
          refine s_y (y_pick_t (congrArg Value.bool (decide_eq_true c463)) (v := (.bool (decide ((((0 : Nat) : Int) : Int) = 0)))) rfl) rfl ?_
          refine s_y (y_move (v := (.bool (decide ((((0 : Nat) : Int) : Int) = 0)))) rfl) rfl ?_
          by_cases c475 : (((0 : Nat) : Int) : Int) = 0
          · have hf476 := ((((((hf360.kp hk362 id).kp hk430 id).kp hk436 id).kp hk443 id).kp hk458 id).kp hk470 id)
            refine s_ge (.yes rfl (congrArg Value.bool (decide_eq_true c475))) (e_call ca25 (args := []) rfl (swakes_spec hf476)) rfl ?_
            rintro _ w477 ⟨rfl, hk478⟩
            have ka479 := (Kp.then0 ka474 hk478)
            refine s_y (y_pick_t (congrArg Value.bool (decide_eq_true c475)) (v := Vt) rfl) rfl ?_
            refine s_y (y_assign (v := Vt) rfl) rfl ?_
            refine s_nil (hK451 _ _ (genC [(0, Vt)] ⟨rfl, trivial⟩ ?_))
            clear hK451; rintro E ⟨g480, -⟩
            refine ret (hret _ _ [Vt] ⟨g480, trivial⟩ ?_)
            exact ⟨rfl, ka479⟩
          · exact absurd rfl c475
        · exact absurd rfl c463
      · exact absurd rfl c439
    · exact absurd rfl c434
  · exact absurd rfl c432

end Go.Proofs.YtdcnblafepgheaaDoor
