/-
  Written by a program (wip/walks).
-/
import Derived.Test.YtdcnblafepgheaaDoorE6
namespace Go.Proofs.YtdcnblafepgheaaDoor
open Go Go.V
set_option maxRecDepth 100000
theorem bnone_spec {g : BibG} {st : BibS} {w : World} (h : BibIs g st w) : Rets Tryd.prog 49 #[(.pointer (some ⟨g.tb, 0, none⟩))] w fun v w' => v = .bool false ∧ K0 w w' := by
  refine enter Tryd.func49 rfl Tryd.ntmps49 rfl fun Q hret hend E hE => ?_
  have g1 : E 0 = (Vp g.tb 0) := hE 0
  clear hE
  have hb0 := h.blk; have hm0 := h.map; have hT0 := h.tb; have hn1 : g.tb ≠ g.mb := blk_ne_map h.blk h.map
  refine seq fun K2 hK2 => ?_
  refine reg ?_
  refine s_y (y_assign (v := Vf) rfl) rfl ?_
  refine s_nil (hK2 _ _ (genC [(0, (Vp g.tb 0))] ⟨g1, trivial⟩ ?_))
  clear hK2; rintro E ⟨g3, -⟩
  refine seq fun K4 hK4 => ?_
  refine reg ?_
  refine s_y (y_move (v := (Vp g.tb 0)) g3) rfl ?_
  refine s_y (y_peq Tryd.underlying22 rfl rfl) rfl ?_
  refine s_y (y_move (v := Vf) rfl) rfl ?_
  refine s_gy (.yes rfl rfl) (y_move (v := (Vp g.tb 0)) g3) rfl ?_
  refine s_gy (.yes rfl rfl) (y_nil rfl) rfl ?_
  refine s_gy (.yes rfl rfl) (y_fld fo95_3 rfl) rfl ?_
  refine s_gy (.yes rfl rfl) (y_load (v := (.map (some g.mb))) rfl (rd_sc sc91 (On.now hb0) rfl)) rfl ?_
  refine s_gy (.yes rfl rfl) (y_meq Tryd.underlying91 rfl rfl) rfl ?_
  refine s_y (y_pick_f rfl (v := Vf) rfl) rfl ?_
  refine s_y (y_assign (v := Vf) rfl) rfl ?_
  refine s_nil (hK4 _ _ (genC [(2, Vf)] ⟨rfl, trivial⟩ ?_))
  clear hK4; rintro E ⟨g5, -⟩
  refine ret (hret _ _ [Vf] ⟨g5, trivial⟩ ?_)
  exact ⟨rfl, (Kp.refl _ _)⟩

theorem told_none {g : BibG} {st : BibS} {w : World} (_h : BibIs g st w) (id : Int) : Rets Tryd.prog 59 #[(.pointer (some ⟨g.tb, 0, none⟩)), (.int .i64 id), (.bool false)] w fun v w' => v = .tuple #[bv zeroB, .bool false] ∧ K0 w w' := by
  refine enter Tryd.func59 rfl Tryd.ntmps59 rfl fun Q hret hend E hE => ?_
  have g1 : E 0 = (Vp g.tb 0) := hE 0
  have g2 : E 1 = (Vi id) := hE 1
  have g3 : E 2 = Vf := hE 2
  clear hE
  refine seq fun K4 hK4 => ?_
  refine reg ?_
  refine s_e (e_alloc ze36) rfl ?_
  rintro _ w5 ⟨rfl, hb6, hk7⟩
  have ka8 : Kp (fun _ => False) w w5 := (Kp.then0 (Kp.refl _ _) hk7)
  refine s_y (y_assign (v := Vf) rfl) rfl ?_
  refine s_nil (hK4 _ _ (genC [(0, (Vp g.tb 0)), (1, (Vi id)), (2, Vf), (6, (Vp w.heap.size 0))] ⟨g1, g2, g3, rfl, trivial⟩ ?_))
  clear hK4; rintro E ⟨g9, g10, g11, g12, -⟩
  refine seq fun K13 hK13 => ?_
  refine seq fun K14 hK14 => ?_
  refine reg ?_
  refine s_y (y_move (v := Vf) g11) rfl ?_
  refine s_y (y_not rfl) rfl ?_
  refine s_nil (hK14 _ _ (genC [(0, (Vp g.tb 0)), (1, (Vi id)), (6, (Vp w.heap.size 0)), (9, Vt)] ⟨g9, g10, g12, rfl, trivial⟩ ?_))
  clear hK14; rintro E ⟨g15, g16, g17, g18, -⟩
  refine cond_t g18 ?_
  refine seq fun K19 hK19 => ?_
  refine reg ?_
  refine s_y (y_build (vs := []) (v := (.agg zBc.toArray)) rfl (fun _ => by kernel_rfl)) rfl ?_
  refine s_e0 (e_storeV (cs' := zBc.toArray) zBc g17 (v := (.agg zBc.toArray)) rfl rfl sz36 hb6 rfl rfl rfl) ?_
  rintro _ w20 ⟨hb21, hk22⟩
  have ka23 := (Kp.fresh ka8 hk22 fun _ e => nl (nl (Nat.le_refl _) (Nat.le_refl _)) (Nat.le_of_eq e.symm))
  refine s_y (y_assign (v := Vf) rfl) rfl ?_
  refine s_nil (hK19 _ _ (genC [(6, (Vp w.heap.size 0)), (7, Vf)] ⟨g17, rfl, trivial⟩ ?_))
  clear hK19; rintro E ⟨g24, g25, -⟩
  refine ret (hret _ _ [(bv (⟨0, 0, (⟨(⟨0, 0, 0, 0, 0, 0, 0, 0, 0, 0, 0, 0, 0, 0, 0, 0⟩ : V6), 0⟩ : T6), (⟨(⟨0, 0, 0, 0⟩ : V4), 0⟩ : T4), false, 0⟩ : Binding)), Vf] ⟨⟨_, g24, (rd_agg (vs := zBc) ag36 (On.now hb21) (by kernel_rfl) rfl)⟩, g25, trivial⟩ ?_)
  exact ⟨rfl, ka23⟩

theorem told_some {g : BibG} {st : BibS} {w : World} (h : BibIs g st w) (q : Binding × Nat) (hq : q ∈ st.l) : Rets Tryd.prog 59 #[(.pointer (some ⟨g.tb, 0, none⟩)), (.int .i64 (q.1.id)), (.bool true)] w fun v w' => v = .tuple #[bv q.1, .bool true] ∧ K0 w w' := by
  refine enter Tryd.func59 rfl Tryd.ntmps59 rfl fun Q hret hend E hE => ?_
  have g1 : E 0 = (Vp g.tb 0) := hE 0
  have g2 : E 1 = (Vi (q.1.id)) := hE 1
  have g3 : E 2 = Vt := hE 2
  clear hE
  have hb0 := h.blk; have hm0 := h.map; have hT0 := h.tb; have hn1 : g.tb ≠ g.mb := blk_ne_map h.blk h.map
  have hq1 := h.aget hq; have hq2 := h.box q hq; have hq3 := h.good hq; unfold inI at hq3
  refine seq fun K4 hK4 => ?_
  refine reg ?_
  refine s_e (e_alloc ze36) rfl ?_
  rintro _ w5 ⟨rfl, hb6, hk7⟩
  have ka8 : Kp (fun _ => False) w w5 := (Kp.then0 (Kp.refl _ _) hk7)
  refine s_y (y_assign (v := Vf) rfl) rfl ?_
  refine s_nil (hK4 _ _ (genC [(0, (Vp g.tb 0)), (1, (Vi (q.1.id))), (2, Vt), (6, (Vp w.heap.size 0))] ⟨g1, g2, g3, rfl, trivial⟩ ?_))
  clear hK4; rintro E ⟨g9, g10, g11, g12, -⟩
  refine seq fun K13 hK13 => ?_
  refine seq fun K14 hK14 => ?_
  refine reg ?_
  refine s_y (y_move (v := Vt) g11) rfl ?_
  refine s_y (y_not rfl) rfl ?_
  refine s_nil (hK14 _ _ (genC [(0, (Vp g.tb 0)), (1, (Vi (q.1.id))), (6, (Vp w.heap.size 0)), (9, Vf)] ⟨g9, g10, g12, rfl, trivial⟩ ?_))
  clear hK14; rintro E ⟨g15, g16, g17, g18, -⟩
  refine cond_f g18 ?_
  refine skip (hK13 _ _ (genC [(0, (Vp g.tb 0)), (1, (Vi (q.1.id))), (6, (Vp w.heap.size 0))] ⟨g15, g16, g17, trivial⟩ ?_))
  clear hK13; rintro E ⟨g19, g20, g21, -⟩
  refine seq fun K22 hK22 => ?_
  refine reg ?_
  refine s_y (y_move (v := (Vp g.tb 0)) g19) rfl ?_
  refine s_y (y_nil rfl) rfl ?_
  refine s_y (y_fld fo95_3 rfl) rfl ?_
  have hb23 := (hk7.get0 hb0)
  refine s_y (y_load (v := (.map (some g.mb))) rfl (rd_sc sc91 (On.now hb23) rfl)) rfl ?_
  refine s_y (y_move (v := (Vi (q.1.id))) g20) rfl ?_
  have hf24 := (hm0.kp hk7 id)
  refine s_y (y_lookup_some kf3 Tryd.underlying91 ze101 (MapOn.now hf24) rfl rfl (show inI q.1.id from inI_of (by omega) (by omega)) hq1) rfl ?_
  refine s_y (y_nil rfl) rfl ?_
  have hb25 := (hk7.get0 hq2)
  refine s_y (y_load (v := (bv q.1)) rfl (rd_agg (vs := q.1.cs) ag36 (On.now hb25) (by kernel_rfl) rfl)) rfl ?_
  refine s_e0 (e_storeV (cs' := q.1.cs.toArray) q.1.cs g21 (v := (bv q.1)) rfl rfl sz36 hb6 rfl rfl rfl) ?_
  rintro _ w26 ⟨hb27, hk28⟩
  have ka29 := (Kp.fresh ka8 hk28 fun _ e => nl (nl (Nat.le_refl _) (Nat.le_refl _)) (Nat.le_of_eq e.symm))
  refine s_y (y_assign (v := Vt) rfl) rfl ?_
  refine s_nil (hK22 _ _ (genC [(6, (Vp w.heap.size 0)), (7, Vt)] ⟨g21, rfl, trivial⟩ ?_))
  clear hK22; rintro E ⟨g30, g31, -⟩
  refine ret (hret _ _ [(bv q.1), Vt] ⟨⟨_, g30, (rd_agg (vs := q.1.cs) ag36 (On.now hb27) (by kernel_rfl) rfl)⟩, g31, trivial⟩ ?_)
  exact ⟨rfl, ka29⟩

theorem inb_spec {g : BibG} {st : BibS} {w : World} (ok : BibOk g) (h : BibIs g st w) (p : Int) (t : T6) (hp : -9223372036854775808 ≤ p ∧ p ≤ 9223372036854775807) (ht : -9223372036854775808 ≤ t.port ∧ t.port ≤ 9223372036854775807) : Rets Tryd.prog 43 #[(.pointer (some ⟨g.tb, 0, none⟩)), (.int .i64 p), (t6 t)] w fun v w' => ((lookIn st.l p t = none ∧ v = .tuple #[bv zeroB, .bool false]) ∨ (∃ q, lookIn st.l p t = some q ∧ q ∈ st.l ∧ v = .tuple #[bv q.1, .bool true])) ∧ K0 w w' := by
  refine enter Tryd.func43 rfl Tryd.ntmps43 rfl fun Q hret hend E hE => ?_
  have g1 : E 0 = (Vp g.tb 0) := hE 0
  have g2 : E 1 = (Vi p) := hE 1
  have g3 : E 2 = (t6 t) := hE 2
  clear hE
  have hb0 := h.blk; have hm0 := h.map; have hT0 := h.tb; have hn1 : g.tb ≠ g.mb := blk_ne_map h.blk h.map
  refine seq fun K4 hK4 => ?_
  refine reg ?_
  refine s_e (e_box (v := (t6 t)) g3) rfl ?_
  rintro _ w5 ⟨rfl, hb6, hk7⟩
  have ka8 : Kp (fun _ => False) w w5 := (Kp.then0 (Kp.refl _ _) hk7)
  refine s_e (e_alloc ze36) rfl ?_
  rintro _ w9 ⟨rfl, hb10, hk11⟩
  have ka12 := (Kp.then0 ka8 hk11)
  refine s_y (y_assign (v := Vf) rfl) rfl ?_
  refine s_nil (hK4 _ _ (genC [(0, (Vp g.tb 0)), (1, (Vi p)), (5, (Vp w.heap.size 0)), (6, (Vp w5.heap.size 0))] ⟨g1, g2, rfl, rfl, trivial⟩ ?_))
  clear hK4; rintro E ⟨g13, g14, g15, g16, -⟩
  refine seq fun K17 hK17 => ?_
  refine seq fun K18 hK18 => ?_
  refine reg ?_
  refine s_y (y_move (v := (Vp g.tb 0)) g13) rfl ?_
  have hf19 := (BibIs.k0 (BibIs.k0 h hk7) hk11)
  refine s_e (e_call ca49 (args := [(Vp g.tb 0)]) rfl (bnone_spec hf19)) rfl ?_
  rintro _ w20 ⟨rfl, hk21⟩
  have ka22 := (Kp.then0 ka12 hk21)
  refine s_nil (hK18 _ _ (genC [(0, (Vp g.tb 0)), (1, (Vi p)), (5, (Vp w.heap.size 0)), (6, (Vp w5.heap.size 0)), (9, Vf)] ⟨g13, g14, g15, g16, rfl, trivial⟩ ?_))
  clear hK18; rintro E ⟨g23, g24, g25, g26, g27, -⟩
  refine cond_f g27 ?_
  refine skip (hK17 _ _ (genC [(0, (Vp g.tb 0)), (1, (Vi p)), (5, (Vp w.heap.size 0)), (6, (Vp w5.heap.size 0))] ⟨g23, g24, g25, g26, trivial⟩ ?_))
  clear hK17; rintro E ⟨g28, g29, g30, g31, -⟩
  refine seq fun K32 hK32 => ?_
  refine regD (· = w5.heap.size) (.take 0 (.take 1 (.take 2 (.take 3 (.take 4 (.take 5 (.take 6 (.one 7 (.one 8 (.take 9 (.take 10 (.one 11 (.take 12 (.take 13 (.one 14 (.take 15 .done)))))))))))))))) mixed (by kernel_rfl) fun w33 hh34 hk35 => ?_
  have ka36 := (Kp.then0 ka22 hk35)
  refine o_y rfl (y_move (v := (Vp g.tb 0)) g28) ?_
  refine o_y rfl (y_move (v := (Vp g.tb 0)) g28) ?_
  refine o_y rfl (y_nil rfl) ?_
  refine o_y rfl (y_fld fo95_4 rfl) ?_
  refine o_y rfl (y_load (v := (Vp g.i1.ib 0)) rfl (rd_sc sc88 (On.kp (hk35.get0 (hk21.get0 (hk11.get0 (hk7.get0 hb0)))) (Nat.ne_of_lt (nt (nt (lt_of_get hb0) hk7.size) (Nat.le_refl _)))) rfl)) ?_
  refine o_y rfl (y_move (v := (Vi p)) g29) ?_
  refine o_y rfl (y_load (v := (t6 t)) g30 (rd_agg (vs := t.cs) ag32 (On.kp (hk35.get0 (hk21.get0 (hk11.get0 hb6))) (Nat.ne_of_lt (nt (lt_of_get hb6) (Nat.le_refl _)))) (by kernel_rfl) rfl)) ?_
  refine o_one ?_
  have hf37 := ((((hT0.kp hk7 id).kp hk11 id).kp hk21 id).kp hk35 id)
  refine c_e rfl (e_call ca80 (args := [(Vi p), (t6 t)]) rfl (key6_spec p t _ (by omega) (by omega) hf37)) ?_
  rintro _ w38 ⟨rfl, hk39⟩
  have ka40 := (Kp.then0 ka36 hk39)
  have ks41 : Kp (· = w5.heap.size) w33 w38 := (Kp.then0 (Kp.refl _ _) hk39)
  refine ⟨ks41, ?_⟩
  refine o_one ?_
  have hf42 := (BibIs.k0 (BibIs.k0 (BibIs.k0 hf19 hk21) hk35) hk39)
  refine c_e rfl (e_call ca73 (args := [(Vp g.i1.ib 0), (.string (k6 p t))]) rfl (getin_spec ok hf42 p t)) ?_
  rintro _ w43 ⟨⟨hq47, u45, rfl⟩ | ⟨q46, hq48, hq49, rfl⟩, hk44⟩
  · have ka50 := (Kp.then0 ka40 hk44)
    have ks51 := (Kp.then0 ks41 hk44)
    refine ⟨ks51, ?_⟩
    refine o_y rfl (y_ext rfl (v := (Vi u45)) rfl) ?_
    refine o_y rfl (y_ext rfl (v := Vf) rfl) ?_
    refine o_one ?_
    have hf52 := (BibIs.k0 hf42 hk44)
    refine c_e rfl (e_call ca59 (args := [(Vp g.tb 0), (Vi u45), Vf]) rfl (told_none hf52 u45)) ?_
    rintro _ w53 ⟨rfl, hk54⟩
    have ka55 := (Kp.then0 ka50 hk54)
    have ks56 := (Kp.then0 ks51 hk54)
    refine ⟨ks56, ?_⟩
    refine o_y rfl (y_ext rfl (v := (bv zeroB)) rfl) ?_
    refine o_y rfl (y_ext rfl (v := Vf) rfl) ?_
    refine o_one ?_
    have hb57 := (hk54.get0 (hk44.get0 (hk39.get0 (hk35.get0 (hk21.get0 hb10)))))
    refine c_e0 rfl (e_storeV (cs' := zeroB.cs.toArray) zeroB.cs g31 (v := (bv zeroB)) rfl rfl sz36 hb57 rfl rfl rfl) ?_
    rintro _ w58 ⟨hb59, hk60⟩
    have ka61 := (Kp.fresh ka55 hk60 fun _ e => nl (nl hk7.size (Nat.le_refl _)) (Nat.le_of_eq e.symm))
    have ks62 := (Kp.trans ks56 hk60 (fun _ _ e => e))
    refine ⟨ks62, ?_⟩
    refine o_y rfl (y_assign (v := Vf) rfl) ?_
    refine o_done (hK32 _ _ (genC [(6, (Vp w5.heap.size 0)), (7, Vf)] ⟨g31, rfl, trivial⟩ ?_))
    clear hK32; rintro E ⟨g63, g64, -⟩
    refine ret (hret _ _ [(bv zeroB), Vf] ⟨⟨_, g63, (rd_agg (vs := zeroB.cs) ag36 (On.now hb59) (by kernel_rfl) rfl)⟩, g64, trivial⟩ ?_)
    exact ⟨.inl ⟨hq47, rfl⟩, ka61⟩
  · have ka65 := (Kp.then0 ka40 hk44)
    have ks66 := (Kp.then0 ks41 hk44)
    refine ⟨ks66, ?_⟩
    refine o_y rfl (y_ext rfl (v := (Vi (q46.1.id))) rfl) ?_
    refine o_y rfl (y_ext rfl (v := Vt) rfl) ?_
    refine o_one ?_
    have hf67 := (BibIs.k0 hf42 hk44)
    refine c_e rfl (e_call ca59 (args := [(Vp g.tb 0), (Vi (q46.1.id)), Vt]) rfl (told_some hf67 q46 hq49)) ?_
    rintro _ w68 ⟨rfl, hk69⟩
    have ka70 := (Kp.then0 ka65 hk69)
    have ks71 := (Kp.then0 ks66 hk69)
    refine ⟨ks71, ?_⟩
    refine o_y rfl (y_ext rfl (v := (bv q46.1)) rfl) ?_
    refine o_y rfl (y_ext rfl (v := Vt) rfl) ?_
    refine o_one ?_
    have hb72 := (hk69.get0 (hk44.get0 (hk39.get0 (hk35.get0 (hk21.get0 hb10)))))
    refine c_e0 rfl (e_storeV (cs' := q46.1.cs.toArray) q46.1.cs g31 (v := (bv q46.1)) rfl rfl sz36 hb72 rfl rfl rfl) ?_
    rintro _ w73 ⟨hb74, hk75⟩
    have ka76 := (Kp.fresh ka70 hk75 fun _ e => nl (nl hk7.size (Nat.le_refl _)) (Nat.le_of_eq e.symm))
    have ks77 := (Kp.trans ks71 hk75 (fun _ _ e => e))
    refine ⟨ks77, ?_⟩
    refine o_y rfl (y_assign (v := Vt) rfl) ?_
    refine o_done (hK32 _ _ (genC [(6, (Vp w5.heap.size 0)), (7, Vt)] ⟨g31, rfl, trivial⟩ ?_))
    clear hK32; rintro E ⟨g78, g79, -⟩
    refine ret (hret _ _ [(bv q46.1), Vt] ⟨⟨_, g78, (rd_agg (vs := q46.1.cs) ag36 (On.now hb74) (by kernel_rfl) rfl)⟩, g79, trivial⟩ ?_)
    exact ⟨.inr ⟨_, hq48, hq49, rfl⟩, ka76⟩

theorem outb_spec {g : BibG} {st : BibS} {w : World} (ok : BibOk g) (h : BibIs g st w) (p : Int) (t : T4) (hp : -9223372036854775808 ≤ p ∧ p ≤ 9223372036854775807) (ht : -9223372036854775808 ≤ t.port ∧ t.port ≤ 9223372036854775807) : Rets Tryd.prog 41 #[(.pointer (some ⟨g.tb, 0, none⟩)), (.int .i64 p), (t4 t)] w fun v w' => ((lookOut st.l p t = none ∧ v = .tuple #[bv zeroB, .bool false]) ∨ (∃ q, lookOut st.l p t = some q ∧ q ∈ st.l ∧ v = .tuple #[bv q.1, .bool true])) ∧ K0 w w' := by
  refine enter Tryd.func41 rfl Tryd.ntmps41 rfl fun Q hret hend E hE => ?_
  have g1 : E 0 = (Vp g.tb 0) := hE 0
  have g2 : E 1 = (Vi p) := hE 1
  have g3 : E 2 = (t4 t) := hE 2
  clear hE
  have hb0 := h.blk; have hm0 := h.map; have hT0 := h.tb; have hn1 : g.tb ≠ g.mb := blk_ne_map h.blk h.map
  refine seq fun K4 hK4 => ?_
  refine reg ?_
  refine s_e (e_box (v := (t4 t)) g3) rfl ?_
  rintro _ w5 ⟨rfl, hb6, hk7⟩
  have ka8 : Kp (fun _ => False) w w5 := (Kp.then0 (Kp.refl _ _) hk7)
  refine s_e (e_alloc ze36) rfl ?_
  rintro _ w9 ⟨rfl, hb10, hk11⟩
  have ka12 := (Kp.then0 ka8 hk11)
  refine s_y (y_assign (v := Vf) rfl) rfl ?_
  refine s_nil (hK4 _ _ (genC [(0, (Vp g.tb 0)), (1, (Vi p)), (5, (Vp w.heap.size 0)), (6, (Vp w5.heap.size 0))] ⟨g1, g2, rfl, rfl, trivial⟩ ?_))
  clear hK4; rintro E ⟨g13, g14, g15, g16, -⟩
  refine seq fun K17 hK17 => ?_
  refine seq fun K18 hK18 => ?_
  refine reg ?_
  refine s_y (y_move (v := (Vp g.tb 0)) g13) rfl ?_
  have hf19 := (BibIs.k0 (BibIs.k0 h hk7) hk11)
  refine s_e (e_call ca49 (args := [(Vp g.tb 0)]) rfl (bnone_spec hf19)) rfl ?_
  rintro _ w20 ⟨rfl, hk21⟩
  have ka22 := (Kp.then0 ka12 hk21)
  refine s_nil (hK18 _ _ (genC [(0, (Vp g.tb 0)), (1, (Vi p)), (5, (Vp w.heap.size 0)), (6, (Vp w5.heap.size 0)), (9, Vf)] ⟨g13, g14, g15, g16, rfl, trivial⟩ ?_))
  clear hK18; rintro E ⟨g23, g24, g25, g26, g27, -⟩
  refine cond_f g27 ?_
  refine skip (hK17 _ _ (genC [(0, (Vp g.tb 0)), (1, (Vi p)), (5, (Vp w.heap.size 0)), (6, (Vp w5.heap.size 0))] ⟨g23, g24, g25, g26, trivial⟩ ?_))
  clear hK17; rintro E ⟨g28, g29, g30, g31, -⟩
  refine seq fun K32 hK32 => ?_
  refine regD (· = w5.heap.size) (.take 0 (.take 1 (.take 2 (.take 3 (.take 4 (.take 5 (.take 6 (.one 7 (.one 8 (.take 9 (.take 10 (.one 11 (.take 12 (.take 13 (.one 14 (.take 15 .done)))))))))))))))) mixed (by kernel_rfl) fun w33 hh34 hk35 => ?_
  have ka36 := (Kp.then0 ka22 hk35)
  refine o_y rfl (y_move (v := (Vp g.tb 0)) g28) ?_
  refine o_y rfl (y_move (v := (Vp g.tb 0)) g28) ?_
  refine o_y rfl (y_nil rfl) ?_
  refine o_y rfl (y_fld fo95_5 rfl) ?_
  refine o_y rfl (y_load (v := (Vp g.i2.ib 0)) rfl (rd_sc sc88 (On.kp (hk35.get0 (hk21.get0 (hk11.get0 (hk7.get0 hb0)))) (Nat.ne_of_lt (nt (nt (lt_of_get hb0) hk7.size) (Nat.le_refl _)))) rfl)) ?_
  refine o_y rfl (y_move (v := (Vi p)) g29) ?_
  refine o_y rfl (y_load (v := (t4 t)) g30 (rd_agg (vs := t.cs) ag34 (On.kp (hk35.get0 (hk21.get0 (hk11.get0 hb6))) (Nat.ne_of_lt (nt (lt_of_get hb6) (Nat.le_refl _)))) (by kernel_rfl) rfl)) ?_
  refine o_one ?_
  have hf37 := ((((hT0.kp hk7 id).kp hk11 id).kp hk21 id).kp hk35 id)
  refine c_e rfl (e_call ca78 (args := [(Vi p), (t4 t)]) rfl (key4_spec p t _ (by omega) (by omega) hf37)) ?_
  rintro _ w38 ⟨rfl, hk39⟩
  have ka40 := (Kp.then0 ka36 hk39)
  have ks41 : Kp (· = w5.heap.size) w33 w38 := (Kp.then0 (Kp.refl _ _) hk39)
  refine ⟨ks41, ?_⟩
  refine o_one ?_
  have hf42 := (BibIs.k0 (BibIs.k0 (BibIs.k0 hf19 hk21) hk35) hk39)
  refine c_e rfl (e_call ca73 (args := [(Vp g.i2.ib 0), (.string (k4 p t))]) rfl (getout_spec ok hf42 p t)) ?_
  rintro _ w43 ⟨⟨hq47, u45, rfl⟩ | ⟨q46, hq48, hq49, rfl⟩, hk44⟩
  · have ka50 := (Kp.then0 ka40 hk44)
    have ks51 := (Kp.then0 ks41 hk44)
    refine ⟨ks51, ?_⟩
    refine o_y rfl (y_ext rfl (v := (Vi u45)) rfl) ?_
    refine o_y rfl (y_ext rfl (v := Vf) rfl) ?_
    refine o_one ?_
    have hf52 := (BibIs.k0 hf42 hk44)
    refine c_e rfl (e_call ca59 (args := [(Vp g.tb 0), (Vi u45), Vf]) rfl (told_none hf52 u45)) ?_
    rintro _ w53 ⟨rfl, hk54⟩
    have ka55 := (Kp.then0 ka50 hk54)
    have ks56 := (Kp.then0 ks51 hk54)
    refine ⟨ks56, ?_⟩
    refine o_y rfl (y_ext rfl (v := (bv zeroB)) rfl) ?_
    refine o_y rfl (y_ext rfl (v := Vf) rfl) ?_
    refine o_one ?_
    have hb57 := (hk54.get0 (hk44.get0 (hk39.get0 (hk35.get0 (hk21.get0 hb10)))))
    refine c_e0 rfl (e_storeV (cs' := zeroB.cs.toArray) zeroB.cs g31 (v := (bv zeroB)) rfl rfl sz36 hb57 rfl rfl rfl) ?_
    rintro _ w58 ⟨hb59, hk60⟩
    have ka61 := (Kp.fresh ka55 hk60 fun _ e => nl (nl hk7.size (Nat.le_refl _)) (Nat.le_of_eq e.symm))
    have ks62 := (Kp.trans ks56 hk60 (fun _ _ e => e))
    refine ⟨ks62, ?_⟩
    refine o_y rfl (y_assign (v := Vf) rfl) ?_
    refine o_done (hK32 _ _ (genC [(6, (Vp w5.heap.size 0)), (7, Vf)] ⟨g31, rfl, trivial⟩ ?_))
    clear hK32; rintro E ⟨g63, g64, -⟩
    refine ret (hret _ _ [(bv zeroB), Vf] ⟨⟨_, g63, (rd_agg (vs := zeroB.cs) ag36 (On.now hb59) (by kernel_rfl) rfl)⟩, g64, trivial⟩ ?_)
    exact ⟨.inl ⟨hq47, rfl⟩, ka61⟩
  · have ka65 := (Kp.then0 ka40 hk44)
    have ks66 := (Kp.then0 ks41 hk44)
    refine ⟨ks66, ?_⟩
    refine o_y rfl (y_ext rfl (v := (Vi (q46.1.id))) rfl) ?_
    refine o_y rfl (y_ext rfl (v := Vt) rfl) ?_
    refine o_one ?_
    have hf67 := (BibIs.k0 hf42 hk44)
    refine c_e rfl (e_call ca59 (args := [(Vp g.tb 0), (Vi (q46.1.id)), Vt]) rfl (told_some hf67 q46 hq49)) ?_
    rintro _ w68 ⟨rfl, hk69⟩
    have ka70 := (Kp.then0 ka65 hk69)
    have ks71 := (Kp.then0 ks66 hk69)
    refine ⟨ks71, ?_⟩
    refine o_y rfl (y_ext rfl (v := (bv q46.1)) rfl) ?_
    refine o_y rfl (y_ext rfl (v := Vt) rfl) ?_
    refine o_one ?_
    have hb72 := (hk69.get0 (hk44.get0 (hk39.get0 (hk35.get0 (hk21.get0 hb10)))))
    refine c_e0 rfl (e_storeV (cs' := q46.1.cs.toArray) q46.1.cs g31 (v := (bv q46.1)) rfl rfl sz36 hb72 rfl rfl rfl) ?_
    rintro _ w73 ⟨hb74, hk75⟩
    have ka76 := (Kp.fresh ka70 hk75 fun _ e => nl (nl hk7.size (Nat.le_refl _)) (Nat.le_of_eq e.symm))
    have ks77 := (Kp.trans ks71 hk75 (fun _ _ e => e))
    refine ⟨ks77, ?_⟩
    refine o_y rfl (y_assign (v := Vt) rfl) ?_
    refine o_done (hK32 _ _ (genC [(6, (Vp w5.heap.size 0)), (7, Vt)] ⟨g31, rfl, trivial⟩ ?_))
    clear hK32; rintro E ⟨g78, g79, -⟩
    refine ret (hret _ _ [(bv q46.1), Vt] ⟨⟨_, g78, (rd_agg (vs := q46.1.cs) ag36 (On.now hb74) (by kernel_rfl) rfl)⟩, g79, trivial⟩ ?_)
    exact ⟨.inr ⟨_, hq48, hq49, rfl⟩, ka76⟩

end Go.Proofs.YtdcnblafepgheaaDoor
