/-
  Written by a program (wip/walks).
-/
import Derived.Test.YtdcnblafepgheaaDoorE17
namespace Go.Proofs.YtdcnblafepgheaaDoor
open Go Go.V
set_option maxRecDepth 100000
theorem unbind_0 {g : BibG} {st : BibS} {w : World} (ok : BibOk g) (h : BibIs g st w) (t : T6) (ht : -9223372036854775808 ≤ t.port ∧ t.port ≤ 9223372036854775807) (hU : ∀ q ∈ st.l, ∀ q' ∈ st.l, k6 q'.1.proto q'.1.inn = k6 q.1.proto q.1.inn → q' = q) (hV : ∀ q ∈ st.l, ∀ q' ∈ st.l, k4 q'.1.proto q'.1.out = k4 q.1.proto q.1.out → q' = q) (hr : ∀ q ∈ st.l, (-9223372036854775808 ≤ q.1.proto ∧ q.1.proto ≤ 9223372036854775807) ∧ (-9223372036854775808 ≤ q.1.inn.port ∧ q.1.inn.port ≤ 9223372036854775807) ∧ (-9223372036854775808 ≤ q.1.out.port ∧ q.1.out.port ≤ 9223372036854775807))  : Rets Tryd.prog 20 #[(.pointer (some ⟨g.tb, 0, none⟩)), (.int .i64 1), (t6 t)] w fun v w' => (((∀ q, lookIn st.l 1 t = some q → q.1.static = false) ∧ v = .tuple #[bv zeroB, .int .i64 4] ∧ BibIs g st w') ∨ (∃ q, lookIn st.l 1 t = some q ∧ q ∈ st.l ∧ q.1.static = true ∧ v = .tuple #[bv q.1, .int .i64 (pRel (g.p 0).l (st.h 0) q.1.out).1] ∧ BibIs g ⟨st.last, cutL st.l q.1.id, setH st.h 0 (pRel (g.p 0).l (st.h 0) q.1.out).2⟩ w')) ∧ Kp (fun k => k = g.tb ∨ k = g.mb ∨ k = g.i1.ib ∨ k = g.i1.sb ∨ k = g.i2.ib ∨ k = g.i2.sb ∨ k = (g.p 0).mb) w w' := by
  refine enter Tryd.func20 rfl Tryd.ntmps20 rfl fun Q hret hend E hE => ?_
  have g1 : E 0 = (Vp g.tb 0) := hE 0
  have g2 : E 1 = (Vi 1) := hE 1
  have g3 : E 2 = (t6 t) := hE 2
  clear hE
  have hb0 := h.blk; have hm0 := h.map; have hT0 := h.tb; have hn1 : g.tb ≠ g.mb := blk_ne_map h.blk h.map
  refine seq fun K4 hK4 => ?_
  refine reg ?_
  refine s_e (e_box (v := (t6 t)) g3) rfl ?_
  rintro _ w5 ⟨rfl, hb6, hk7⟩
  have ka8 : Kp (fun k => k = g.tb ∨ k = g.mb ∨ k = g.i1.ib ∨ k = g.i1.sb ∨ k = g.i2.ib ∨ k = g.i2.sb ∨ k = (g.p 0).mb) w w5 := (Kp.then0 (Kp.refl _ _) hk7)
  refine s_e (e_alloc ze36) rfl ?_
  rintro _ w9 ⟨rfl, hb10, hk11⟩
  have ka12 := (Kp.then0 ka8 hk11)
  refine s_y (y_assign (v := (Vi 0)) rfl) rfl ?_
  refine s_nil (hK4 _ _ (genC [(0, (Vp g.tb 0)), (1, (Vi 1)), (5, (Vp w.heap.size 0)), (6, (Vp w5.heap.size 0))] ⟨g1, g2, rfl, rfl, trivial⟩ ?_))
  clear hK4; rintro E ⟨g13, g14, g15, g16, -⟩
  refine seq fun K17 hK17 => ?_
  refine block ?_
  refine seq fun K18 hK18 => ?_
  refine reg ?_
  refine s_y (y_move (v := (Vp g.tb 0)) g13) rfl ?_
  have hf19 := (BibIs.k0 (BibIs.k0 h hk7) hk11)
  refine s_e (e_call ca49 (args := [(Vp g.tb 0)]) rfl (bnone_spec hf19)) rfl ?_
  rintro _ w20 ⟨rfl, hk21⟩
  have ka22 := (Kp.then0 ka12 hk21)
  refine s_y (y_assign (v := Vf) rfl) rfl ?_
  refine s_nil (hK18 _ _ (genC [(0, (Vp g.tb 0)), (1, (Vi 1)), (5, (Vp w.heap.size 0)), (6, (Vp w5.heap.size 0)), (10, Vf)] ⟨g13, g14, g15, g16, rfl, trivial⟩ ?_))
  clear hK18; rintro E ⟨g23, g24, g25, g26, g27, -⟩
  refine cond_f g27 ?_
  refine seq fun K28 hK28 => ?_
  refine reg ?_
  refine s_y (y_move (v := (Vi 1)) g24) rfl ?_
  refine s_e (e_call ca51 (args := [(Vi 1)]) rfl (kind_spec 1 _)) rfl ?_
  rintro _ w29 ⟨rfl, hk30⟩
  have ka31 := (Kp.then0 ka22 hk30)
  refine s_y (y_lss rfl rfl) rfl ?_
  refine s_y (y_assign (v := Vf) rfl) rfl ?_
  refine s_nil (hK28 _ _ (genC [(0, (Vp g.tb 0)), (1, (Vi 1)), (5, (Vp w.heap.size 0)), (6, (Vp w5.heap.size 0)), (14, Vf)] ⟨g23, g24, g25, g26, rfl, trivial⟩ ?_))
  clear hK28; rintro E ⟨g32, g33, g34, g35, g36, -⟩
  refine cond_f g36 ?_
  refine skip (hK17 _ _ (genC [(0, (Vp g.tb 0)), (1, (Vi 1)), (5, (Vp w.heap.size 0)), (6, (Vp w5.heap.size 0))] ⟨g32, g33, g34, g35, trivial⟩ ?_))
  clear hK17; rintro E ⟨g37, g38, g39, g40, -⟩
  refine seq fun K41 hK41 => ?_
  refine reg ?_
  refine s_y (y_move (v := (Vp g.tb 0)) g37) rfl ?_
  refine s_y (y_move (v := (Vi 1)) g38) rfl ?_
  have hb42 := (hk30.get0 (hk21.get0 (hk11.get0 hb6)))
  refine s_y (y_load (v := (t6 t)) g39 (rd_agg (vs := t.cs) ag32 (On.now hb42) (by kernel_rfl) rfl)) rfl ?_
  have hf43 := (BibIs.k0 (BibIs.k0 hf19 hk21) hk30)
  refine s_e (e_call ca43 (args := [(Vp g.tb 0), (Vi 1), (t6 t)]) rfl (inb_spec ok hf43 1 t (by omega) (by omega))) rfl ?_
  rintro _ w44 ⟨⟨hq47, rfl⟩ | ⟨q46, hq48, hq49, rfl⟩, hk45⟩
  · have ka50 := (Kp.then0 ka31 hk45)
    refine s_y (y_move (v := (.tuple #[(bv zeroB), Vf])) rfl) rfl ?_
    refine s_y (y_ext rfl (v := (bv zeroB)) rfl) rfl ?_
    refine s_y (y_ext rfl (v := Vf) rfl) rfl ?_
    refine s_e (e_alloc ze36) rfl ?_
    rintro _ w51 ⟨rfl, hb52, hk53⟩
    have ka54 := (Kp.then0 ka50 hk53)
    refine s_e0 (e_storeV (cs' := zeroB.cs.toArray) zeroB.cs rfl (v := (bv zeroB)) rfl rfl sz36 hb52 rfl rfl rfl) ?_
    rintro _ w55 ⟨hb56, hk57⟩
    have hz59 := (nl (nl (nl (nl hk7.size hk11.size) hk21.size) hk30.size) hk45.size)
    have ka58 := (Kp.fresh ka54 hk57 fun _ e => nl (nl hz59 (Nat.le_refl _)) (Nat.le_of_eq e.symm))
    refine s_y (y_assign (v := Vf) rfl) rfl ?_
    refine s_nil (hK41 _ _ (genC [(0, (Vp g.tb 0)), (1, (Vi 1)), (6, (Vp w5.heap.size 0)), (8, (Vp w44.heap.size 0)), (9, Vf)] ⟨g37, g38, g40, rfl, rfl, trivial⟩ ?_))
    clear hK41; rintro E ⟨g60, g61, g62, g63, g64, -⟩
    refine seq fun K65 hK65 => ?_
    refine seq fun K66 hK66 => ?_
    refine reg ?_
    refine s_y (y_move (v := Vf) g64) rfl ?_
    refine s_y (y_not rfl) rfl ?_
    refine s_y (y_move (v := Vt) rfl) rfl ?_
    refine s_no (.no rfl (c := true) rfl rfl) rfl ?_
    refine s_no (.no rfl (c := true) rfl rfl) rfl ?_
    refine s_no (.no rfl (c := true) rfl rfl) rfl ?_
    refine s_y (y_pick_t rfl (v := Vt) rfl) rfl ?_
    refine s_nil (hK66 _ _ (genC [(0, (Vp g.tb 0)), (1, (Vi 1)), (6, (Vp w5.heap.size 0)), (8, (Vp w44.heap.size 0)), (32, Vt)] ⟨g60, g61, g62, g63, rfl, trivial⟩ ?_))
    clear hK66; rintro E ⟨g67, g68, g69, g70, g71, -⟩
    refine cond_t g71 ?_
    refine seq fun K72 hK72 => ?_
    refine reg ?_
    refine s_y (y_build (vs := []) (v := (.agg zBc.toArray)) rfl (fun _ => by kernel_rfl)) rfl ?_
    have hz73 := (nl (nl hk21.size hk30.size) hk45.size)
    have hb74 := (hk57.get (hk53.get0 (hk45.get0 (hk30.get0 (hk21.get0 hb10)))) (Nat.ne_of_lt (nt (nt (lt_of_get hb10) hz73) (Nat.le_refl _))))
    refine s_e0 (e_storeV (cs' := zBc.toArray) zBc g69 (v := (.agg zBc.toArray)) rfl rfl sz36 hb74 rfl rfl rfl) ?_
    rintro _ w75 ⟨hb76, hk77⟩
    have ka78 := (Kp.fresh ka58 hk77 fun _ e => nl (nl hk7.size (Nat.le_refl _)) (Nat.le_of_eq e.symm))
    refine s_y (y_assign (v := (Vi 4)) rfl) rfl ?_
    refine s_nil (hK72 _ _ (genC [(6, (Vp w5.heap.size 0)), (7, (Vi 4))] ⟨g69, rfl, trivial⟩ ?_))
    clear hK72; rintro E ⟨g79, g80, -⟩
    refine ret (hret _ _ [(bv (⟨0, 0, (⟨(⟨0, 0, 0, 0, 0, 0, 0, 0, 0, 0, 0, 0, 0, 0, 0, 0⟩ : V6), 0⟩ : T6), (⟨(⟨0, 0, 0, 0⟩ : V4), 0⟩ : T4), false, 0⟩ : Binding)), (Vi 4)] ⟨⟨_, g79, (rd_agg (vs := zBc) ag36 (On.now hb76) (by kernel_rfl) rfl)⟩, g80, trivial⟩ ?_)
    have hf81 := (BibIs.kp (BibIs.kp (BibIs.k0 (BibIs.k0 hf43 hk45) hk53) hk57 (fun b hb => (fun e => (fun hb => Nat.lt_irrefl _ (nt (BibIs.lt h _ hb) (nl hz59 (Nat.le_refl _)))) (e ▸ hb))) (Nat.ne_of_lt (nt (nt (hT0.lt) hz59) (Nat.le_refl _)))) hk77 (fun b hb => (fun e => (fun hb => Nat.lt_irrefl _ (nt (BibIs.lt h _ hb) (nl hk7.size (Nat.le_refl _)))) (e ▸ hb))) (Nat.ne_of_lt (nt (nt (hT0.lt) hk7.size) (Nat.le_refl _))))
    exact ⟨.inl ⟨(fun q hq => by rw [hq47] at hq; cases hq), rfl, hf81⟩, ka78⟩
  · have ka82 := (Kp.then0 ka31 hk45)
    refine s_y (y_move (v := (.tuple #[(bv q46.1), Vt])) rfl) rfl ?_
    refine s_y (y_ext rfl (v := (bv q46.1)) rfl) rfl ?_
    refine s_y (y_ext rfl (v := Vt) rfl) rfl ?_
    refine s_e (e_alloc ze36) rfl ?_
    rintro _ w83 ⟨rfl, hb84, hk85⟩
    have ka86 := (Kp.then0 ka82 hk85)
    refine s_e0 (e_storeV (cs' := q46.1.cs.toArray) q46.1.cs rfl (v := (bv q46.1)) rfl rfl sz36 hb84 rfl rfl rfl) ?_
    rintro _ w87 ⟨hb88, hk89⟩
    have hz91 := (nl (nl (nl (nl hk7.size hk11.size) hk21.size) hk30.size) hk45.size)
    have ka90 := (Kp.fresh ka86 hk89 fun _ e => nl (nl hz91 (Nat.le_refl _)) (Nat.le_of_eq e.symm))
    refine s_y (y_assign (v := Vt) rfl) rfl ?_
    refine s_nil (hK41 _ _ (genC [(0, (Vp g.tb 0)), (1, (Vi 1)), (6, (Vp w5.heap.size 0)), (8, (Vp w44.heap.size 0)), (9, Vt)] ⟨g37, g38, g40, rfl, rfl, trivial⟩ ?_))
    clear hK41; rintro E ⟨g92, g93, g94, g95, g96, -⟩
    refine seq fun K97 hK97 => ?_
    refine seq fun K98 hK98 => ?_
    refine reg ?_
    refine s_y (y_move (v := Vt) g96) rfl ?_
    refine s_y (y_not rfl) rfl ?_
    refine s_y (y_move (v := Vf) rfl) rfl ?_
    refine s_gy (.yes rfl rfl) (y_fld fo36_4 g95) rfl ?_
    refine s_gy (.yes rfl rfl) (y_load (v := (.bool (q46.1.static))) rfl (rd_sc sc4 (On.now hb88) rfl)) rfl ?_
    refine s_gy (.yes rfl rfl) (y_not rfl) rfl ?_
    refine s_y (y_pick_f rfl (v := (.bool (!(q46.1.static)))) rfl) rfl ?_
    refine s_nil (hK98 _ _ (genC [(0, (Vp g.tb 0)), (1, (Vi 1)), (6, (Vp w5.heap.size 0)), (8, (Vp w44.heap.size 0)), (32, (.bool (!(q46.1.static))))] ⟨g92, g93, g94, g95, rfl, trivial⟩ ?_))
    clear hK98; rintro E ⟨g99, g100, g101, g102, g103, -⟩
    refine cond_b g103 (fun c104 => ?_) (fun c104 => ?_)
    · refine seq fun K105 hK105 => ?_
      refine reg ?_
      refine s_y (y_build (vs := []) (v := (.agg zBc.toArray)) rfl (fun _ => by kernel_rfl)) rfl ?_
      have hz106 := (nl (nl hk21.size hk30.size) hk45.size)
      have hb107 := (hk89.get (hk85.get0 (hk45.get0 (hk30.get0 (hk21.get0 hb10)))) (Nat.ne_of_lt (nt (nt (lt_of_get hb10) hz106) (Nat.le_refl _))))
      refine s_e0 (e_storeV (cs' := zBc.toArray) zBc g101 (v := (.agg zBc.toArray)) rfl rfl sz36 hb107 rfl rfl rfl) ?_
      rintro _ w108 ⟨hb109, hk110⟩
      have ka111 := (Kp.fresh ka90 hk110 fun _ e => nl (nl hk7.size (Nat.le_refl _)) (Nat.le_of_eq e.symm))
      refine s_y (y_assign (v := (Vi 4)) rfl) rfl ?_
      refine s_nil (hK105 _ _ (genC [(6, (Vp w5.heap.size 0)), (7, (Vi 4))] ⟨g101, rfl, trivial⟩ ?_))
      clear hK105; rintro E ⟨g112, g113, -⟩
      refine ret (hret _ _ [(bv (⟨0, 0, (⟨(⟨0, 0, 0, 0, 0, 0, 0, 0, 0, 0, 0, 0, 0, 0, 0, 0⟩ : V6), 0⟩ : T6), (⟨(⟨0, 0, 0, 0⟩ : V4), 0⟩ : T4), false, 0⟩ : Binding)), (Vi 4)] ⟨⟨_, g112, (rd_agg (vs := zBc) ag36 (On.now hb109) (by kernel_rfl) rfl)⟩, g113, trivial⟩ ?_)
      have hf114 := (BibIs.kp (BibIs.kp (BibIs.k0 (BibIs.k0 hf43 hk45) hk85) hk89 (fun b hb => (fun e => (fun hb => Nat.lt_irrefl _ (nt (BibIs.lt h _ hb) (nl hz91 (Nat.le_refl _)))) (e ▸ hb))) (Nat.ne_of_lt (nt (nt (hT0.lt) hz91) (Nat.le_refl _)))) hk110 (fun b hb => (fun e => (fun hb => Nat.lt_irrefl _ (nt (BibIs.lt h _ hb) (nl hk7.size (Nat.le_refl _)))) (e ▸ hb))) (Nat.ne_of_lt (nt (nt (hT0.lt) hk7.size) (Nat.le_refl _))))
      exact ⟨.inl ⟨(fun q hq => by rw [hq48] at hq; cases hq; exact (by simpa using c104)), rfl, hf114⟩, ka111⟩
    · refine skip (hK97 _ _ (genC [(0, (Vp g.tb 0)), (1, (Vi 1)), (6, (Vp w5.heap.size 0)), (8, (Vp w44.heap.size 0))] ⟨g99, g100, g101, g102, trivial⟩ ?_))
      clear hK97; rintro E ⟨g115, g116, g117, g118, -⟩
      refine seq fun K119 hK119 => ?_
      refine reg ?_
      refine s_y (y_move (v := (Vp g.tb 0)) g115) rfl ?_
      refine s_y (y_load (v := (bv q46.1)) g118 (rd_agg (vs := q46.1.cs) ag36 (On.now hb88) (by kernel_rfl) rfl)) rfl ?_
      have hf120 := (BibIs.kp (BibIs.k0 (BibIs.k0 hf43 hk45) hk85) hk89 (fun b hb => (fun e => (fun hb => Nat.lt_irrefl _ (nt (BibIs.lt h _ hb) (nl hz91 (Nat.le_refl _)))) (e ▸ hb))) (Nat.ne_of_lt (nt (nt (hT0.lt) hz91) (Nat.le_refl _))))
      have hr9 := hr q46 hq49
      refine s_e (e_call ca50 (args := [(Vp g.tb 0), (bv q46.1)]) rfl (cutb_spec ok hf120 q46 hq49 q46.1 rfl rfl rfl rfl (hU q46 hq49) (hV q46 hq49) hr9)) rfl ?_
      rintro _ w121 ⟨rfl, hC9, hk122⟩
      have ka123 := (Kp.trans ka90 hk122 (fun _ _ e => (fun e => e.elim (fun e => (.inl e)) (fun e => e.elim (fun e => (.inr (.inl e))) (fun e => e.elim (fun e => (.inr (.inr (.inl e)))) (fun e => e.elim (fun e => (.inr (.inr (.inr (.inl e))))) (fun e => e.elim (fun e => (.inr (.inr (.inr (.inr (.inl e)))))) (fun e => (.inr (.inr (.inr (.inr (.inr (.inl e)))))))))))) e))
      have hb124 := BibIs.blk hC9; have hm125 := BibIs.map hC9; have hT126 := BibIs.tb hC9
      refine s_nil (hK119 _ _ (genC [(0, (Vp g.tb 0)), (1, (Vi 1)), (6, (Vp w5.heap.size 0)), (8, (Vp w44.heap.size 0))] ⟨g115, g116, g117, g118, trivial⟩ ?_))
      clear hK119; rintro E ⟨g127, g128, g129, g130, -⟩
      refine seq fun K131 hK131 => ?_
      refine regD (fun k => k = (g.p 0).mb ∨ k = w5.heap.size) (.take 0 (.take 1 (.take 2 (.take 4 (.take 5 (.take 8 (.take 9 (.one 3 (.take 6 (.take 7 (.one 10 (.one 11 (.take 12 .done))))))))))))) mixed (by kernel_rfl) fun w132 hh133 hk134 => ?_
      have ka135 := (Kp.then0 ka123 hk134)
      have hz136 := (nl (nl hk21.size hk30.size) hk45.size)
      refine o_y rfl (y_load (v := (bv q46.1)) g130 (rd_agg (vs := q46.1.cs) ag36 (On.kp (hk134.get0 (hk122.get hb88 (not_or.2 ⟨(Nat.ne_of_gt (nt (nt (lt_of_get hb0) hz91) (Nat.le_refl _))), (not_or.2 ⟨(Nat.ne_of_gt (nt (nt (hm0.lt) hz91) (Nat.le_refl _))), (not_or.2 ⟨(Nat.ne_of_gt (nt (nt ((BibIs.lt h _ (mem_blocks (List.mem_of_getElem? (i := 2) (rfl : g.blocks[2]? = some g.i1.ib))))) hz91) (Nat.le_refl _))), (not_or.2 ⟨(Nat.ne_of_gt (nt (nt ((BibIs.lt h _ (mem_blocks (List.mem_of_getElem? (i := 3) (rfl : g.blocks[3]? = some g.i1.sb))))) hz91) (Nat.le_refl _))), (not_or.2 ⟨(Nat.ne_of_gt (nt (nt ((BibIs.lt h _ (mem_blocks (List.mem_of_getElem? (i := 4) (rfl : g.blocks[4]? = some g.i2.ib))))) hz91) (Nat.le_refl _))), (Nat.ne_of_gt (nt (nt ((BibIs.lt h _ (mem_blocks (List.mem_of_getElem? (i := 5) (rfl : g.blocks[5]? = some g.i2.sb))))) hz91) (Nat.le_refl _)))⟩)⟩)⟩)⟩)⟩))) (not_or.2 ⟨(Nat.ne_of_gt (nt (nt ((BibIs.lt h _ (mem_blocks (List.mem_of_getElem? (i := 8) (rfl : g.blocks[8]? = some (g.p 0).mb))))) hz91) (Nat.le_refl _))), (Nat.ne_of_gt (nt (nt (lt_of_get hb10) hz136) (Nat.le_refl _)))⟩)) (by kernel_rfl) rfl)) ?_
      refine o_y rfl (y_move (v := (Vp g.tb 0)) g127) ?_
      refine o_y rfl (y_move (v := (Vi 1)) g128) ?_
      refine o_y rfl (y_nil rfl) ?_
      refine o_y rfl (y_fld fo95_6 rfl) ?_
      refine o_y rfl (y_fld fo36_3 g130) ?_
      refine o_y rfl (y_load (v := (t4 q46.1.out)) rfl (rd_agg (vs := q46.1.out.cs) ag34 (On.kp (hk134.get0 (hk122.get hb88 (not_or.2 ⟨(Nat.ne_of_gt (nt (nt (lt_of_get hb0) hz91) (Nat.le_refl _))), (not_or.2 ⟨(Nat.ne_of_gt (nt (nt (hm0.lt) hz91) (Nat.le_refl _))), (not_or.2 ⟨(Nat.ne_of_gt (nt (nt ((BibIs.lt h _ (mem_blocks (List.mem_of_getElem? (i := 2) (rfl : g.blocks[2]? = some g.i1.ib))))) hz91) (Nat.le_refl _))), (not_or.2 ⟨(Nat.ne_of_gt (nt (nt ((BibIs.lt h _ (mem_blocks (List.mem_of_getElem? (i := 3) (rfl : g.blocks[3]? = some g.i1.sb))))) hz91) (Nat.le_refl _))), (not_or.2 ⟨(Nat.ne_of_gt (nt (nt ((BibIs.lt h _ (mem_blocks (List.mem_of_getElem? (i := 4) (rfl : g.blocks[4]? = some g.i2.ib))))) hz91) (Nat.le_refl _))), (Nat.ne_of_gt (nt (nt ((BibIs.lt h _ (mem_blocks (List.mem_of_getElem? (i := 5) (rfl : g.blocks[5]? = some g.i2.sb))))) hz91) (Nat.le_refl _)))⟩)⟩)⟩)⟩)⟩))) (not_or.2 ⟨(Nat.ne_of_gt (nt (nt ((BibIs.lt h _ (mem_blocks (List.mem_of_getElem? (i := 8) (rfl : g.blocks[8]? = some (g.p 0).mb))))) hz91) (Nat.le_refl _))), (Nat.ne_of_gt (nt (nt (lt_of_get hb10) hz136) (Nat.le_refl _)))⟩)) (by kernel_rfl) rfl)) ?_
      refine o_one ?_
      refine c_e rfl (e_call ca51 (args := [(Vi 1)]) rfl (kind_spec 1 _)) ?_
      rintro _ w137 ⟨rfl, hk138⟩
      have ka139 := (Kp.then0 ka135 hk138)
      have ks140 : Kp (fun k => k = (g.p 0).mb ∨ k = w5.heap.size) w132 w137 := (Kp.then0 (Kp.refl _ _) hk138)
      refine ⟨ks140, ?_⟩
      refine o_y rfl (y_idxA ao93 sz92 rfl (i := 0) rfl (by omega)) ?_
      refine o_y rfl (y_load (v := (Vp ((g.p 0).pb) 0)) rfl (rd_sc sc92 (On.kp (hk134.get0 hb124) (not_or.2 ⟨(blocks_ne h.nd (i := 0) (j := 8) (by decide) rfl rfl), (Nat.ne_of_lt (nt (nt (lt_of_get hb0) hk7.size) (Nat.le_refl _)))⟩)) rfl)) ?_
      refine o_one ?_
      have hf141 := (BibIs.k0 (BibIs.k0 hC9 hk134) hk138)
      refine c_e rfl (e_call ca57 (args := [(Vp ((g.p 0).pb) 0), (t4 q46.1.out)]) rfl (release_spec (BibIs.pool hf141 0 (by omega)) (ok.pool 0 (by omega)) q46.1.out hr9.2.2)) ?_
      rintro _ w142 ⟨rfl, hp144, hk143⟩
      have hD9 := BibIs.pool_put hf141 (k := 0) (by omega) hp144 hk143
      have ka145 := (Kp.trans ka139 hk143 (fun _ _ e => (fun e => (.inr (.inr (.inr (.inr (.inr (.inr e))))))) e))
      have ks146 := (Kp.trans ks140 hk143 (fun _ _ e => (fun e => (.inl e)) e))
      refine ⟨ks146, ?_⟩
      refine o_one ?_
      have hb147 := (hk143.get (hk138.get0 (hk134.get0 (hk122.get (hk89.get (hk85.get0 (hk45.get0 (hk30.get0 (hk21.get0 hb10)))) (Nat.ne_of_lt (nt (nt (lt_of_get hb10) hz136) (Nat.le_refl _)))) (not_or.2 ⟨(Nat.ne_of_gt (nt (nt (lt_of_get hb0) hk7.size) (Nat.le_refl _))), (not_or.2 ⟨(Nat.ne_of_gt (nt (nt (hm0.lt) hk7.size) (Nat.le_refl _))), (not_or.2 ⟨(Nat.ne_of_gt (nt (nt ((BibIs.lt h _ (mem_blocks (List.mem_of_getElem? (i := 2) (rfl : g.blocks[2]? = some g.i1.ib))))) hk7.size) (Nat.le_refl _))), (not_or.2 ⟨(Nat.ne_of_gt (nt (nt ((BibIs.lt h _ (mem_blocks (List.mem_of_getElem? (i := 3) (rfl : g.blocks[3]? = some g.i1.sb))))) hk7.size) (Nat.le_refl _))), (not_or.2 ⟨(Nat.ne_of_gt (nt (nt ((BibIs.lt h _ (mem_blocks (List.mem_of_getElem? (i := 4) (rfl : g.blocks[4]? = some g.i2.ib))))) hk7.size) (Nat.le_refl _))), (Nat.ne_of_gt (nt (nt ((BibIs.lt h _ (mem_blocks (List.mem_of_getElem? (i := 5) (rfl : g.blocks[5]? = some g.i2.sb))))) hk7.size) (Nat.le_refl _)))⟩)⟩)⟩)⟩)⟩)))) (Nat.ne_of_gt (nt (nt ((BibIs.lt h _ (mem_blocks (List.mem_of_getElem? (i := 8) (rfl : g.blocks[8]? = some (g.p 0).mb))))) hk7.size) (Nat.le_refl _))))
      refine c_e0 rfl (e_storeV (cs' := q46.1.cs.toArray) q46.1.cs g129 (v := (bv q46.1)) rfl rfl sz36 hb147 rfl rfl rfl) ?_
      rintro _ w148 ⟨hb149, hk150⟩
      have ka151 := (Kp.fresh ka145 hk150 fun _ e => nl (nl hk7.size (Nat.le_refl _)) (Nat.le_of_eq e.symm))
      have ks152 := (Kp.trans ks146 hk150 (fun _ _ e => (fun e => (.inr e)) e))
      refine ⟨ks152, ?_⟩
      refine o_y rfl (y_assign (v := (Vi ((pRel (g.p 0).l (st.h 0) q46.1.out).1))) rfl) ?_
      refine o_done (hK131 _ _ (genC [(6, (Vp w5.heap.size 0)), (7, (Vi ((pRel (g.p 0).l (st.h 0) q46.1.out).1)))] ⟨g129, rfl, trivial⟩ ?_))
      clear hK131; rintro E ⟨g153, g154, -⟩
      refine ret (hret _ _ [(bv q46.1), (Vi ((pRel (g.p 0).l (st.h 0) q46.1.out).1))] ⟨⟨_, g153, (rd_agg (vs := q46.1.cs) ag36 (On.now hb149) (by kernel_rfl) rfl)⟩, g154, trivial⟩ ?_)
      have hf155 := (BibIs.kp hD9 hk150 (fun b hb => (fun e => (fun hb => Nat.lt_irrefl _ (nt (BibIs.lt h _ (bfp_cut hb)) (nl hk7.size (Nat.le_refl _)))) (e ▸ hb))) (Nat.ne_of_lt (nt (nt (hT0.lt) hk7.size) (Nat.le_refl _))))
      exact ⟨.inr ⟨_, hq48, hq49, by simpa using c104, rfl, hf155⟩, ka151⟩

theorem unbind_1 {g : BibG} {st : BibS} {w : World} (ok : BibOk g) (h : BibIs g st w) (t : T6) (ht : -9223372036854775808 ≤ t.port ∧ t.port ≤ 9223372036854775807) (hU : ∀ q ∈ st.l, ∀ q' ∈ st.l, k6 q'.1.proto q'.1.inn = k6 q.1.proto q.1.inn → q' = q) (hV : ∀ q ∈ st.l, ∀ q' ∈ st.l, k4 q'.1.proto q'.1.out = k4 q.1.proto q.1.out → q' = q) (hr : ∀ q ∈ st.l, (-9223372036854775808 ≤ q.1.proto ∧ q.1.proto ≤ 9223372036854775807) ∧ (-9223372036854775808 ≤ q.1.inn.port ∧ q.1.inn.port ≤ 9223372036854775807) ∧ (-9223372036854775808 ≤ q.1.out.port ∧ q.1.out.port ≤ 9223372036854775807))  : Rets Tryd.prog 20 #[(.pointer (some ⟨g.tb, 0, none⟩)), (.int .i64 6), (t6 t)] w fun v w' => (((∀ q, lookIn st.l 6 t = some q → q.1.static = false) ∧ v = .tuple #[bv zeroB, .int .i64 4] ∧ BibIs g st w') ∨ (∃ q, lookIn st.l 6 t = some q ∧ q ∈ st.l ∧ q.1.static = true ∧ v = .tuple #[bv q.1, .int .i64 (pRel (g.p 1).l (st.h 1) q.1.out).1] ∧ BibIs g ⟨st.last, cutL st.l q.1.id, setH st.h 1 (pRel (g.p 1).l (st.h 1) q.1.out).2⟩ w')) ∧ Kp (fun k => k = g.tb ∨ k = g.mb ∨ k = g.i1.ib ∨ k = g.i1.sb ∨ k = g.i2.ib ∨ k = g.i2.sb ∨ k = (g.p 1).mb) w w' := by
  refine enter Tryd.func20 rfl Tryd.ntmps20 rfl fun Q hret hend E hE => ?_
  have g1 : E 0 = (Vp g.tb 0) := hE 0
  have g2 : E 1 = (Vi 6) := hE 1
  have g3 : E 2 = (t6 t) := hE 2
  clear hE
  have hb0 := h.blk; have hm0 := h.map; have hT0 := h.tb; have hn1 : g.tb ≠ g.mb := blk_ne_map h.blk h.map
  refine seq fun K4 hK4 => ?_
  refine reg ?_
  refine s_e (e_box (v := (t6 t)) g3) rfl ?_
  rintro _ w5 ⟨rfl, hb6, hk7⟩
  have ka8 : Kp (fun k => k = g.tb ∨ k = g.mb ∨ k = g.i1.ib ∨ k = g.i1.sb ∨ k = g.i2.ib ∨ k = g.i2.sb ∨ k = (g.p 1).mb) w w5 := (Kp.then0 (Kp.refl _ _) hk7)
  refine s_e (e_alloc ze36) rfl ?_
  rintro _ w9 ⟨rfl, hb10, hk11⟩
  have ka12 := (Kp.then0 ka8 hk11)
  refine s_y (y_assign (v := (Vi 0)) rfl) rfl ?_
  refine s_nil (hK4 _ _ (genC [(0, (Vp g.tb 0)), (1, (Vi 6)), (5, (Vp w.heap.size 0)), (6, (Vp w5.heap.size 0))] ⟨g1, g2, rfl, rfl, trivial⟩ ?_))
  clear hK4; rintro E ⟨g13, g14, g15, g16, -⟩
  refine seq fun K17 hK17 => ?_
  refine block ?_
  refine seq fun K18 hK18 => ?_
  refine reg ?_
  refine s_y (y_move (v := (Vp g.tb 0)) g13) rfl ?_
  have hf19 := (BibIs.k0 (BibIs.k0 h hk7) hk11)
  refine s_e (e_call ca49 (args := [(Vp g.tb 0)]) rfl (bnone_spec hf19)) rfl ?_
  rintro _ w20 ⟨rfl, hk21⟩
  have ka22 := (Kp.then0 ka12 hk21)
  refine s_y (y_assign (v := Vf) rfl) rfl ?_
  refine s_nil (hK18 _ _ (genC [(0, (Vp g.tb 0)), (1, (Vi 6)), (5, (Vp w.heap.size 0)), (6, (Vp w5.heap.size 0)), (10, Vf)] ⟨g13, g14, g15, g16, rfl, trivial⟩ ?_))
  clear hK18; rintro E ⟨g23, g24, g25, g26, g27, -⟩
  refine cond_f g27 ?_
  refine seq fun K28 hK28 => ?_
  refine reg ?_
  refine s_y (y_move (v := (Vi 6)) g24) rfl ?_
  refine s_e (e_call ca51 (args := [(Vi 6)]) rfl (kind_spec 6 _)) rfl ?_
  rintro _ w29 ⟨rfl, hk30⟩
  have ka31 := (Kp.then0 ka22 hk30)
  refine s_y (y_lss rfl rfl) rfl ?_
  refine s_y (y_assign (v := Vf) rfl) rfl ?_
  refine s_nil (hK28 _ _ (genC [(0, (Vp g.tb 0)), (1, (Vi 6)), (5, (Vp w.heap.size 0)), (6, (Vp w5.heap.size 0)), (14, Vf)] ⟨g23, g24, g25, g26, rfl, trivial⟩ ?_))
  clear hK28; rintro E ⟨g32, g33, g34, g35, g36, -⟩
  refine cond_f g36 ?_
  refine skip (hK17 _ _ (genC [(0, (Vp g.tb 0)), (1, (Vi 6)), (5, (Vp w.heap.size 0)), (6, (Vp w5.heap.size 0))] ⟨g32, g33, g34, g35, trivial⟩ ?_))
  clear hK17; rintro E ⟨g37, g38, g39, g40, -⟩
  refine seq fun K41 hK41 => ?_
  refine reg ?_
  refine s_y (y_move (v := (Vp g.tb 0)) g37) rfl ?_
  refine s_y (y_move (v := (Vi 6)) g38) rfl ?_
  have hb42 := (hk30.get0 (hk21.get0 (hk11.get0 hb6)))
  refine s_y (y_load (v := (t6 t)) g39 (rd_agg (vs := t.cs) ag32 (On.now hb42) (by kernel_rfl) rfl)) rfl ?_
  have hf43 := (BibIs.k0 (BibIs.k0 hf19 hk21) hk30)
  refine s_e (e_call ca43 (args := [(Vp g.tb 0), (Vi 6), (t6 t)]) rfl (inb_spec ok hf43 6 t (by omega) (by omega))) rfl ?_
  rintro _ w44 ⟨⟨hq47, rfl⟩ | ⟨q46, hq48, hq49, rfl⟩, hk45⟩
  · have ka50 := (Kp.then0 ka31 hk45)
    refine s_y (y_move (v := (.tuple #[(bv zeroB), Vf])) rfl) rfl ?_
    refine s_y (y_ext rfl (v := (bv zeroB)) rfl) rfl ?_
    refine s_y (y_ext rfl (v := Vf) rfl) rfl ?_
    refine s_e (e_alloc ze36) rfl ?_
    rintro _ w51 ⟨rfl, hb52, hk53⟩
    have ka54 := (Kp.then0 ka50 hk53)
    refine s_e0 (e_storeV (cs' := zeroB.cs.toArray) zeroB.cs rfl (v := (bv zeroB)) rfl rfl sz36 hb52 rfl rfl rfl) ?_
    rintro _ w55 ⟨hb56, hk57⟩
    have hz59 := (nl (nl (nl (nl hk7.size hk11.size) hk21.size) hk30.size) hk45.size)
    have ka58 := (Kp.fresh ka54 hk57 fun _ e => nl (nl hz59 (Nat.le_refl _)) (Nat.le_of_eq e.symm))
    refine s_y (y_assign (v := Vf) rfl) rfl ?_
    refine s_nil (hK41 _ _ (genC [(0, (Vp g.tb 0)), (1, (Vi 6)), (6, (Vp w5.heap.size 0)), (8, (Vp w44.heap.size 0)), (9, Vf)] ⟨g37, g38, g40, rfl, rfl, trivial⟩ ?_))
    clear hK41; rintro E ⟨g60, g61, g62, g63, g64, -⟩
    refine seq fun K65 hK65 => ?_
    refine seq fun K66 hK66 => ?_
    refine reg ?_
    refine s_y (y_move (v := Vf) g64) rfl ?_
    refine s_y (y_not rfl) rfl ?_
    refine s_y (y_move (v := Vt) rfl) rfl ?_
    refine s_no (.no rfl (c := true) rfl rfl) rfl ?_
    refine s_no (.no rfl (c := true) rfl rfl) rfl ?_
    refine s_no (.no rfl (c := true) rfl rfl) rfl ?_
    refine s_y (y_pick_t rfl (v := Vt) rfl) rfl ?_
    refine s_nil (hK66 _ _ (genC [(0, (Vp g.tb 0)), (1, (Vi 6)), (6, (Vp w5.heap.size 0)), (8, (Vp w44.heap.size 0)), (32, Vt)] ⟨g60, g61, g62, g63, rfl, trivial⟩ ?_))
    clear hK66; rintro E ⟨g67, g68, g69, g70, g71, -⟩
    refine cond_t g71 ?_
    refine seq fun K72 hK72 => ?_
    refine reg ?_
    refine s_y (y_build (vs := []) (v := (.agg zBc.toArray)) rfl (fun _ => by kernel_rfl)) rfl ?_
    have hz73 := (nl (nl hk21.size hk30.size) hk45.size)
    have hb74 := (hk57.get (hk53.get0 (hk45.get0 (hk30.get0 (hk21.get0 hb10)))) (Nat.ne_of_lt (nt (nt (lt_of_get hb10) hz73) (Nat.le_refl _))))
    refine s_e0 (e_storeV (cs' := zBc.toArray) zBc g69 (v := (.agg zBc.toArray)) rfl rfl sz36 hb74 rfl rfl rfl) ?_
    rintro _ w75 ⟨hb76, hk77⟩
    have ka78 := (Kp.fresh ka58 hk77 fun _ e => nl (nl hk7.size (Nat.le_refl _)) (Nat.le_of_eq e.symm))
    refine s_y (y_assign (v := (Vi 4)) rfl) rfl ?_
    refine s_nil (hK72 _ _ (genC [(6, (Vp w5.heap.size 0)), (7, (Vi 4))] ⟨g69, rfl, trivial⟩ ?_))
    clear hK72; rintro E ⟨g79, g80, -⟩
    refine ret (hret _ _ [(bv (⟨0, 0, (⟨(⟨0, 0, 0, 0, 0, 0, 0, 0, 0, 0, 0, 0, 0, 0, 0, 0⟩ : V6), 0⟩ : T6), (⟨(⟨0, 0, 0, 0⟩ : V4), 0⟩ : T4), false, 0⟩ : Binding)), (Vi 4)] ⟨⟨_, g79, (rd_agg (vs := zBc) ag36 (On.now hb76) (by kernel_rfl) rfl)⟩, g80, trivial⟩ ?_)
    have hf81 := (BibIs.kp (BibIs.kp (BibIs.k0 (BibIs.k0 hf43 hk45) hk53) hk57 (fun b hb => (fun e => (fun hb => Nat.lt_irrefl _ (nt (BibIs.lt h _ hb) (nl hz59 (Nat.le_refl _)))) (e ▸ hb))) (Nat.ne_of_lt (nt (nt (hT0.lt) hz59) (Nat.le_refl _)))) hk77 (fun b hb => (fun e => (fun hb => Nat.lt_irrefl _ (nt (BibIs.lt h _ hb) (nl hk7.size (Nat.le_refl _)))) (e ▸ hb))) (Nat.ne_of_lt (nt (nt (hT0.lt) hk7.size) (Nat.le_refl _))))
    exact ⟨.inl ⟨(fun q hq => by rw [hq47] at hq; cases hq), rfl, hf81⟩, ka78⟩
  · have ka82 := (Kp.then0 ka31 hk45)
    refine s_y (y_move (v := (.tuple #[(bv q46.1), Vt])) rfl) rfl ?_
    refine s_y (y_ext rfl (v := (bv q46.1)) rfl) rfl ?_
    refine s_y (y_ext rfl (v := Vt) rfl) rfl ?_
    refine s_e (e_alloc ze36) rfl ?_
    rintro _ w83 ⟨rfl, hb84, hk85⟩
    have ka86 := (Kp.then0 ka82 hk85)
    refine s_e0 (e_storeV (cs' := q46.1.cs.toArray) q46.1.cs rfl (v := (bv q46.1)) rfl rfl sz36 hb84 rfl rfl rfl) ?_
    rintro _ w87 ⟨hb88, hk89⟩
    have hz91 := (nl (nl (nl (nl hk7.size hk11.size) hk21.size) hk30.size) hk45.size)
    have ka90 := (Kp.fresh ka86 hk89 fun _ e => nl (nl hz91 (Nat.le_refl _)) (Nat.le_of_eq e.symm))
    refine s_y (y_assign (v := Vt) rfl) rfl ?_
    refine s_nil (hK41 _ _ (genC [(0, (Vp g.tb 0)), (1, (Vi 6)), (6, (Vp w5.heap.size 0)), (8, (Vp w44.heap.size 0)), (9, Vt)] ⟨g37, g38, g40, rfl, rfl, trivial⟩ ?_))
    clear hK41; rintro E ⟨g92, g93, g94, g95, g96, -⟩
    refine seq fun K97 hK97 => ?_
    refine seq fun K98 hK98 => ?_
    refine reg ?_
    refine s_y (y_move (v := Vt) g96) rfl ?_
    refine s_y (y_not rfl) rfl ?_
    refine s_y (y_move (v := Vf) rfl) rfl ?_
    refine s_gy (.yes rfl rfl) (y_fld fo36_4 g95) rfl ?_
    refine s_gy (.yes rfl rfl) (y_load (v := (.bool (q46.1.static))) rfl (rd_sc sc4 (On.now hb88) rfl)) rfl ?_
    refine s_gy (.yes rfl rfl) (y_not rfl) rfl ?_
    refine s_y (y_pick_f rfl (v := (.bool (!(q46.1.static)))) rfl) rfl ?_
    refine s_nil (hK98 _ _ (genC [(0, (Vp g.tb 0)), (1, (Vi 6)), (6, (Vp w5.heap.size 0)), (8, (Vp w44.heap.size 0)), (32, (.bool (!(q46.1.static))))] ⟨g92, g93, g94, g95, rfl, trivial⟩ ?_))
    clear hK98; rintro E ⟨g99, g100, g101, g102, g103, -⟩
    refine cond_b g103 (fun c104 => ?_) (fun c104 => ?_)
    · refine seq fun K105 hK105 => ?_
      refine reg ?_
      refine s_y (y_build (vs := []) (v := (.agg zBc.toArray)) rfl (fun _ => by kernel_rfl)) rfl ?_
      have hz106 := (nl (nl hk21.size hk30.size) hk45.size)
      have hb107 := (hk89.get (hk85.get0 (hk45.get0 (hk30.get0 (hk21.get0 hb10)))) (Nat.ne_of_lt (nt (nt (lt_of_get hb10) hz106) (Nat.le_refl _))))
      refine s_e0 (e_storeV (cs' := zBc.toArray) zBc g101 (v := (.agg zBc.toArray)) rfl rfl sz36 hb107 rfl rfl rfl) ?_
      rintro _ w108 ⟨hb109, hk110⟩
      have ka111 := (Kp.fresh ka90 hk110 fun _ e => nl (nl hk7.size (Nat.le_refl _)) (Nat.le_of_eq e.symm))
      refine s_y (y_assign (v := (Vi 4)) rfl) rfl ?_
      refine s_nil (hK105 _ _ (genC [(6, (Vp w5.heap.size 0)), (7, (Vi 4))] ⟨g101, rfl, trivial⟩ ?_))
      clear hK105; rintro E ⟨g112, g113, -⟩
      refine ret (hret _ _ [(bv (⟨0, 0, (⟨(⟨0, 0, 0, 0, 0, 0, 0, 0, 0, 0, 0, 0, 0, 0, 0, 0⟩ : V6), 0⟩ : T6), (⟨(⟨0, 0, 0, 0⟩ : V4), 0⟩ : T4), false, 0⟩ : Binding)), (Vi 4)] ⟨⟨_, g112, (rd_agg (vs := zBc) ag36 (On.now hb109) (by kernel_rfl) rfl)⟩, g113, trivial⟩ ?_)
      have hf114 := (BibIs.kp (BibIs.kp (BibIs.k0 (BibIs.k0 hf43 hk45) hk85) hk89 (fun b hb => (fun e => (fun hb => Nat.lt_irrefl _ (nt (BibIs.lt h _ hb) (nl hz91 (Nat.le_refl _)))) (e ▸ hb))) (Nat.ne_of_lt (nt (nt (hT0.lt) hz91) (Nat.le_refl _)))) hk110 (fun b hb => (fun e => (fun hb => Nat.lt_irrefl _ (nt (BibIs.lt h _ hb) (nl hk7.size (Nat.le_refl _)))) (e ▸ hb))) (Nat.ne_of_lt (nt (nt (hT0.lt) hk7.size) (Nat.le_refl _))))
      exact ⟨.inl ⟨(fun q hq => by rw [hq48] at hq; cases hq; exact (by simpa using c104)), rfl, hf114⟩, ka111⟩
    · refine skip (hK97 _ _ (genC [(0, (Vp g.tb 0)), (1, (Vi 6)), (6, (Vp w5.heap.size 0)), (8, (Vp w44.heap.size 0))] ⟨g99, g100, g101, g102, trivial⟩ ?_))
      clear hK97; rintro E ⟨g115, g116, g117, g118, -⟩
      refine seq fun K119 hK119 => ?_
      refine reg ?_
      refine s_y (y_move (v := (Vp g.tb 0)) g115) rfl ?_
      refine s_y (y_load (v := (bv q46.1)) g118 (rd_agg (vs := q46.1.cs) ag36 (On.now hb88) (by kernel_rfl) rfl)) rfl ?_
      have hf120 := (BibIs.kp (BibIs.k0 (BibIs.k0 hf43 hk45) hk85) hk89 (fun b hb => (fun e => (fun hb => Nat.lt_irrefl _ (nt (BibIs.lt h _ hb) (nl hz91 (Nat.le_refl _)))) (e ▸ hb))) (Nat.ne_of_lt (nt (nt (hT0.lt) hz91) (Nat.le_refl _))))
      have hr9 := hr q46 hq49
      refine s_e (e_call ca50 (args := [(Vp g.tb 0), (bv q46.1)]) rfl (cutb_spec ok hf120 q46 hq49 q46.1 rfl rfl rfl rfl (hU q46 hq49) (hV q46 hq49) hr9)) rfl ?_
      rintro _ w121 ⟨rfl, hC9, hk122⟩
      have ka123 := (Kp.trans ka90 hk122 (fun _ _ e => (fun e => e.elim (fun e => (.inl e)) (fun e => e.elim (fun e => (.inr (.inl e))) (fun e => e.elim (fun e => (.inr (.inr (.inl e)))) (fun e => e.elim (fun e => (.inr (.inr (.inr (.inl e))))) (fun e => e.elim (fun e => (.inr (.inr (.inr (.inr (.inl e)))))) (fun e => (.inr (.inr (.inr (.inr (.inr (.inl e)))))))))))) e))
      have hb124 := BibIs.blk hC9; have hm125 := BibIs.map hC9; have hT126 := BibIs.tb hC9
      refine s_nil (hK119 _ _ (genC [(0, (Vp g.tb 0)), (1, (Vi 6)), (6, (Vp w5.heap.size 0)), (8, (Vp w44.heap.size 0))] ⟨g115, g116, g117, g118, trivial⟩ ?_))
      clear hK119; rintro E ⟨g127, g128, g129, g130, -⟩
      refine seq fun K131 hK131 => ?_
      refine regD (fun k => k = (g.p 1).mb ∨ k = w5.heap.size) (.take 0 (.take 1 (.take 2 (.take 4 (.take 5 (.take 8 (.take 9 (.one 3 (.take 6 (.take 7 (.one 10 (.one 11 (.take 12 .done))))))))))))) mixed (by kernel_rfl) fun w132 hh133 hk134 => ?_
      have ka135 := (Kp.then0 ka123 hk134)
      have hz136 := (nl (nl hk21.size hk30.size) hk45.size)
      refine o_y rfl (y_load (v := (bv q46.1)) g130 (rd_agg (vs := q46.1.cs) ag36 (On.kp (hk134.get0 (hk122.get hb88 (not_or.2 ⟨(Nat.ne_of_gt (nt (nt (lt_of_get hb0) hz91) (Nat.le_refl _))), (not_or.2 ⟨(Nat.ne_of_gt (nt (nt (hm0.lt) hz91) (Nat.le_refl _))), (not_or.2 ⟨(Nat.ne_of_gt (nt (nt ((BibIs.lt h _ (mem_blocks (List.mem_of_getElem? (i := 2) (rfl : g.blocks[2]? = some g.i1.ib))))) hz91) (Nat.le_refl _))), (not_or.2 ⟨(Nat.ne_of_gt (nt (nt ((BibIs.lt h _ (mem_blocks (List.mem_of_getElem? (i := 3) (rfl : g.blocks[3]? = some g.i1.sb))))) hz91) (Nat.le_refl _))), (not_or.2 ⟨(Nat.ne_of_gt (nt (nt ((BibIs.lt h _ (mem_blocks (List.mem_of_getElem? (i := 4) (rfl : g.blocks[4]? = some g.i2.ib))))) hz91) (Nat.le_refl _))), (Nat.ne_of_gt (nt (nt ((BibIs.lt h _ (mem_blocks (List.mem_of_getElem? (i := 5) (rfl : g.blocks[5]? = some g.i2.sb))))) hz91) (Nat.le_refl _)))⟩)⟩)⟩)⟩)⟩))) (not_or.2 ⟨(Nat.ne_of_gt (nt (nt ((BibIs.lt h _ (mem_blocks (List.mem_of_getElem? (i := 11) (rfl : g.blocks[11]? = some (g.p 1).mb))))) hz91) (Nat.le_refl _))), (Nat.ne_of_gt (nt (nt (lt_of_get hb10) hz136) (Nat.le_refl _)))⟩)) (by kernel_rfl) rfl)) ?_
      refine o_y rfl (y_move (v := (Vp g.tb 0)) g127) ?_
      refine o_y rfl (y_move (v := (Vi 6)) g128) ?_
      refine o_y rfl (y_nil rfl) ?_
      refine o_y rfl (y_fld fo95_6 rfl) ?_
      refine o_y rfl (y_fld fo36_3 g130) ?_
      refine o_y rfl (y_load (v := (t4 q46.1.out)) rfl (rd_agg (vs := q46.1.out.cs) ag34 (On.kp (hk134.get0 (hk122.get hb88 (not_or.2 ⟨(Nat.ne_of_gt (nt (nt (lt_of_get hb0) hz91) (Nat.le_refl _))), (not_or.2 ⟨(Nat.ne_of_gt (nt (nt (hm0.lt) hz91) (Nat.le_refl _))), (not_or.2 ⟨(Nat.ne_of_gt (nt (nt ((BibIs.lt h _ (mem_blocks (List.mem_of_getElem? (i := 2) (rfl : g.blocks[2]? = some g.i1.ib))))) hz91) (Nat.le_refl _))), (not_or.2 ⟨(Nat.ne_of_gt (nt (nt ((BibIs.lt h _ (mem_blocks (List.mem_of_getElem? (i := 3) (rfl : g.blocks[3]? = some g.i1.sb))))) hz91) (Nat.le_refl _))), (not_or.2 ⟨(Nat.ne_of_gt (nt (nt ((BibIs.lt h _ (mem_blocks (List.mem_of_getElem? (i := 4) (rfl : g.blocks[4]? = some g.i2.ib))))) hz91) (Nat.le_refl _))), (Nat.ne_of_gt (nt (nt ((BibIs.lt h _ (mem_blocks (List.mem_of_getElem? (i := 5) (rfl : g.blocks[5]? = some g.i2.sb))))) hz91) (Nat.le_refl _)))⟩)⟩)⟩)⟩)⟩))) (not_or.2 ⟨(Nat.ne_of_gt (nt (nt ((BibIs.lt h _ (mem_blocks (List.mem_of_getElem? (i := 11) (rfl : g.blocks[11]? = some (g.p 1).mb))))) hz91) (Nat.le_refl _))), (Nat.ne_of_gt (nt (nt (lt_of_get hb10) hz136) (Nat.le_refl _)))⟩)) (by kernel_rfl) rfl)) ?_
      refine o_one ?_
      refine c_e rfl (e_call ca51 (args := [(Vi 6)]) rfl (kind_spec 6 _)) ?_
      rintro _ w137 ⟨rfl, hk138⟩
      have ka139 := (Kp.then0 ka135 hk138)
      have ks140 : Kp (fun k => k = (g.p 1).mb ∨ k = w5.heap.size) w132 w137 := (Kp.then0 (Kp.refl _ _) hk138)
      refine ⟨ks140, ?_⟩
      refine o_y rfl (y_idxA ao93 sz92 rfl (i := 1) rfl (by omega)) ?_
      refine o_y rfl (y_load (v := (Vp ((g.p 1).pb) 0)) rfl (rd_sc sc92 (On.kp (hk134.get0 hb124) (not_or.2 ⟨(blocks_ne h.nd (i := 0) (j := 11) (by decide) rfl rfl), (Nat.ne_of_lt (nt (nt (lt_of_get hb0) hk7.size) (Nat.le_refl _)))⟩)) rfl)) ?_
      refine o_one ?_
      have hf141 := (BibIs.k0 (BibIs.k0 hC9 hk134) hk138)
      refine c_e rfl (e_call ca57 (args := [(Vp ((g.p 1).pb) 0), (t4 q46.1.out)]) rfl (release_spec (BibIs.pool hf141 1 (by omega)) (ok.pool 1 (by omega)) q46.1.out hr9.2.2)) ?_
      rintro _ w142 ⟨rfl, hp144, hk143⟩
      have hD9 := BibIs.pool_put hf141 (k := 1) (by omega) hp144 hk143
      have ka145 := (Kp.trans ka139 hk143 (fun _ _ e => (fun e => (.inr (.inr (.inr (.inr (.inr (.inr e))))))) e))
      have ks146 := (Kp.trans ks140 hk143 (fun _ _ e => (fun e => (.inl e)) e))
      refine ⟨ks146, ?_⟩
      refine o_one ?_
      have hb147 := (hk143.get (hk138.get0 (hk134.get0 (hk122.get (hk89.get (hk85.get0 (hk45.get0 (hk30.get0 (hk21.get0 hb10)))) (Nat.ne_of_lt (nt (nt (lt_of_get hb10) hz136) (Nat.le_refl _)))) (not_or.2 ⟨(Nat.ne_of_gt (nt (nt (lt_of_get hb0) hk7.size) (Nat.le_refl _))), (not_or.2 ⟨(Nat.ne_of_gt (nt (nt (hm0.lt) hk7.size) (Nat.le_refl _))), (not_or.2 ⟨(Nat.ne_of_gt (nt (nt ((BibIs.lt h _ (mem_blocks (List.mem_of_getElem? (i := 2) (rfl : g.blocks[2]? = some g.i1.ib))))) hk7.size) (Nat.le_refl _))), (not_or.2 ⟨(Nat.ne_of_gt (nt (nt ((BibIs.lt h _ (mem_blocks (List.mem_of_getElem? (i := 3) (rfl : g.blocks[3]? = some g.i1.sb))))) hk7.size) (Nat.le_refl _))), (not_or.2 ⟨(Nat.ne_of_gt (nt (nt ((BibIs.lt h _ (mem_blocks (List.mem_of_getElem? (i := 4) (rfl : g.blocks[4]? = some g.i2.ib))))) hk7.size) (Nat.le_refl _))), (Nat.ne_of_gt (nt (nt ((BibIs.lt h _ (mem_blocks (List.mem_of_getElem? (i := 5) (rfl : g.blocks[5]? = some g.i2.sb))))) hk7.size) (Nat.le_refl _)))⟩)⟩)⟩)⟩)⟩)))) (Nat.ne_of_gt (nt (nt ((BibIs.lt h _ (mem_blocks (List.mem_of_getElem? (i := 11) (rfl : g.blocks[11]? = some (g.p 1).mb))))) hk7.size) (Nat.le_refl _))))
      refine c_e0 rfl (e_storeV (cs' := q46.1.cs.toArray) q46.1.cs g129 (v := (bv q46.1)) rfl rfl sz36 hb147 rfl rfl rfl) ?_
      rintro _ w148 ⟨hb149, hk150⟩
      have ka151 := (Kp.fresh ka145 hk150 fun _ e => nl (nl hk7.size (Nat.le_refl _)) (Nat.le_of_eq e.symm))
      have ks152 := (Kp.trans ks146 hk150 (fun _ _ e => (fun e => (.inr e)) e))
      refine ⟨ks152, ?_⟩
      refine o_y rfl (y_assign (v := (Vi ((pRel (g.p 1).l (st.h 1) q46.1.out).1))) rfl) ?_
      refine o_done (hK131 _ _ (genC [(6, (Vp w5.heap.size 0)), (7, (Vi ((pRel (g.p 1).l (st.h 1) q46.1.out).1)))] ⟨g129, rfl, trivial⟩ ?_))
      clear hK131; rintro E ⟨g153, g154, -⟩
      refine ret (hret _ _ [(bv q46.1), (Vi ((pRel (g.p 1).l (st.h 1) q46.1.out).1))] ⟨⟨_, g153, (rd_agg (vs := q46.1.cs) ag36 (On.now hb149) (by kernel_rfl) rfl)⟩, g154, trivial⟩ ?_)
      have hf155 := (BibIs.kp hD9 hk150 (fun b hb => (fun e => (fun hb => Nat.lt_irrefl _ (nt (BibIs.lt h _ (bfp_cut hb)) (nl hk7.size (Nat.le_refl _)))) (e ▸ hb))) (Nat.ne_of_lt (nt (nt (hT0.lt) hk7.size) (Nat.le_refl _))))
      exact ⟨.inr ⟨_, hq48, hq49, by simpa using c104, rfl, hf155⟩, ka151⟩

theorem unbind_2 {g : BibG} {st : BibS} {w : World} (ok : BibOk g) (h : BibIs g st w) (t : T6) (ht : -9223372036854775808 ≤ t.port ∧ t.port ≤ 9223372036854775807) (hU : ∀ q ∈ st.l, ∀ q' ∈ st.l, k6 q'.1.proto q'.1.inn = k6 q.1.proto q.1.inn → q' = q) (hV : ∀ q ∈ st.l, ∀ q' ∈ st.l, k4 q'.1.proto q'.1.out = k4 q.1.proto q.1.out → q' = q) (hr : ∀ q ∈ st.l, (-9223372036854775808 ≤ q.1.proto ∧ q.1.proto ≤ 9223372036854775807) ∧ (-9223372036854775808 ≤ q.1.inn.port ∧ q.1.inn.port ≤ 9223372036854775807) ∧ (-9223372036854775808 ≤ q.1.out.port ∧ q.1.out.port ≤ 9223372036854775807))  : Rets Tryd.prog 20 #[(.pointer (some ⟨g.tb, 0, none⟩)), (.int .i64 17), (t6 t)] w fun v w' => (((∀ q, lookIn st.l 17 t = some q → q.1.static = false) ∧ v = .tuple #[bv zeroB, .int .i64 4] ∧ BibIs g st w') ∨ (∃ q, lookIn st.l 17 t = some q ∧ q ∈ st.l ∧ q.1.static = true ∧ v = .tuple #[bv q.1, .int .i64 (pRel (g.p 2).l (st.h 2) q.1.out).1] ∧ BibIs g ⟨st.last, cutL st.l q.1.id, setH st.h 2 (pRel (g.p 2).l (st.h 2) q.1.out).2⟩ w')) ∧ Kp (fun k => k = g.tb ∨ k = g.mb ∨ k = g.i1.ib ∨ k = g.i1.sb ∨ k = g.i2.ib ∨ k = g.i2.sb ∨ k = (g.p 2).mb) w w' := by
  refine enter Tryd.func20 rfl Tryd.ntmps20 rfl fun Q hret hend E hE => ?_
  have g1 : E 0 = (Vp g.tb 0) := hE 0
  have g2 : E 1 = (Vi 17) := hE 1
  have g3 : E 2 = (t6 t) := hE 2
  clear hE
  have hb0 := h.blk; have hm0 := h.map; have hT0 := h.tb; have hn1 : g.tb ≠ g.mb := blk_ne_map h.blk h.map
  refine seq fun K4 hK4 => ?_
  refine reg ?_
  refine s_e (e_box (v := (t6 t)) g3) rfl ?_
  rintro _ w5 ⟨rfl, hb6, hk7⟩
  have ka8 : Kp (fun k => k = g.tb ∨ k = g.mb ∨ k = g.i1.ib ∨ k = g.i1.sb ∨ k = g.i2.ib ∨ k = g.i2.sb ∨ k = (g.p 2).mb) w w5 := (Kp.then0 (Kp.refl _ _) hk7)
  refine s_e (e_alloc ze36) rfl ?_
  rintro _ w9 ⟨rfl, hb10, hk11⟩
  have ka12 := (Kp.then0 ka8 hk11)
  refine s_y (y_assign (v := (Vi 0)) rfl) rfl ?_
  refine s_nil (hK4 _ _ (genC [(0, (Vp g.tb 0)), (1, (Vi 17)), (5, (Vp w.heap.size 0)), (6, (Vp w5.heap.size 0))] ⟨g1, g2, rfl, rfl, trivial⟩ ?_))
  clear hK4; rintro E ⟨g13, g14, g15, g16, -⟩
  refine seq fun K17 hK17 => ?_
  refine block ?_
  refine seq fun K18 hK18 => ?_
  refine reg ?_
  refine s_y (y_move (v := (Vp g.tb 0)) g13) rfl ?_
  have hf19 := (BibIs.k0 (BibIs.k0 h hk7) hk11)
  refine s_e (e_call ca49 (args := [(Vp g.tb 0)]) rfl (bnone_spec hf19)) rfl ?_
  rintro _ w20 ⟨rfl, hk21⟩
  have ka22 := (Kp.then0 ka12 hk21)
  refine s_y (y_assign (v := Vf) rfl) rfl ?_
  refine s_nil (hK18 _ _ (genC [(0, (Vp g.tb 0)), (1, (Vi 17)), (5, (Vp w.heap.size 0)), (6, (Vp w5.heap.size 0)), (10, Vf)] ⟨g13, g14, g15, g16, rfl, trivial⟩ ?_))
  clear hK18; rintro E ⟨g23, g24, g25, g26, g27, -⟩
  refine cond_f g27 ?_
  refine seq fun K28 hK28 => ?_
  refine reg ?_
  refine s_y (y_move (v := (Vi 17)) g24) rfl ?_
  refine s_e (e_call ca51 (args := [(Vi 17)]) rfl (kind_spec 17 _)) rfl ?_
  rintro _ w29 ⟨rfl, hk30⟩
  have ka31 := (Kp.then0 ka22 hk30)
  refine s_y (y_lss rfl rfl) rfl ?_
  refine s_y (y_assign (v := Vf) rfl) rfl ?_
  refine s_nil (hK28 _ _ (genC [(0, (Vp g.tb 0)), (1, (Vi 17)), (5, (Vp w.heap.size 0)), (6, (Vp w5.heap.size 0)), (14, Vf)] ⟨g23, g24, g25, g26, rfl, trivial⟩ ?_))
  clear hK28; rintro E ⟨g32, g33, g34, g35, g36, -⟩
  refine cond_f g36 ?_
  refine skip (hK17 _ _ (genC [(0, (Vp g.tb 0)), (1, (Vi 17)), (5, (Vp w.heap.size 0)), (6, (Vp w5.heap.size 0))] ⟨g32, g33, g34, g35, trivial⟩ ?_))
  clear hK17; rintro E ⟨g37, g38, g39, g40, -⟩
  refine seq fun K41 hK41 => ?_
  refine reg ?_
  refine s_y (y_move (v := (Vp g.tb 0)) g37) rfl ?_
  refine s_y (y_move (v := (Vi 17)) g38) rfl ?_
  have hb42 := (hk30.get0 (hk21.get0 (hk11.get0 hb6)))
  refine s_y (y_load (v := (t6 t)) g39 (rd_agg (vs := t.cs) ag32 (On.now hb42) (by kernel_rfl) rfl)) rfl ?_
  have hf43 := (BibIs.k0 (BibIs.k0 hf19 hk21) hk30)
  refine s_e (e_call ca43 (args := [(Vp g.tb 0), (Vi 17), (t6 t)]) rfl (inb_spec ok hf43 17 t (by omega) (by omega))) rfl ?_
  rintro _ w44 ⟨⟨hq47, rfl⟩ | ⟨q46, hq48, hq49, rfl⟩, hk45⟩
  · have ka50 := (Kp.then0 ka31 hk45)
    refine s_y (y_move (v := (.tuple #[(bv zeroB), Vf])) rfl) rfl ?_
    refine s_y (y_ext rfl (v := (bv zeroB)) rfl) rfl ?_
    refine s_y (y_ext rfl (v := Vf) rfl) rfl ?_
    refine s_e (e_alloc ze36) rfl ?_
    rintro _ w51 ⟨rfl, hb52, hk53⟩
    have ka54 := (Kp.then0 ka50 hk53)
    refine s_e0 (e_storeV (cs' := zeroB.cs.toArray) zeroB.cs rfl (v := (bv zeroB)) rfl rfl sz36 hb52 rfl rfl rfl) ?_
    rintro _ w55 ⟨hb56, hk57⟩
    have hz59 := (nl (nl (nl (nl hk7.size hk11.size) hk21.size) hk30.size) hk45.size)
    have ka58 := (Kp.fresh ka54 hk57 fun _ e => nl (nl hz59 (Nat.le_refl _)) (Nat.le_of_eq e.symm))
    refine s_y (y_assign (v := Vf) rfl) rfl ?_
    refine s_nil (hK41 _ _ (genC [(0, (Vp g.tb 0)), (1, (Vi 17)), (6, (Vp w5.heap.size 0)), (8, (Vp w44.heap.size 0)), (9, Vf)] ⟨g37, g38, g40, rfl, rfl, trivial⟩ ?_))
    clear hK41; rintro E ⟨g60, g61, g62, g63, g64, -⟩
    refine seq fun K65 hK65 => ?_
    refine seq fun K66 hK66 => ?_
    refine reg ?_
    refine s_y (y_move (v := Vf) g64) rfl ?_
    refine s_y (y_not rfl) rfl ?_
    refine s_y (y_move (v := Vt) rfl) rfl ?_
    refine s_no (.no rfl (c := true) rfl rfl) rfl ?_
    refine s_no (.no rfl (c := true) rfl rfl) rfl ?_
    refine s_no (.no rfl (c := true) rfl rfl) rfl ?_
    refine s_y (y_pick_t rfl (v := Vt) rfl) rfl ?_
    refine s_nil (hK66 _ _ (genC [(0, (Vp g.tb 0)), (1, (Vi 17)), (6, (Vp w5.heap.size 0)), (8, (Vp w44.heap.size 0)), (32, Vt)] ⟨g60, g61, g62, g63, rfl, trivial⟩ ?_))
    clear hK66; rintro E ⟨g67, g68, g69, g70, g71, -⟩
    refine cond_t g71 ?_
    refine seq fun K72 hK72 => ?_
    refine reg ?_
    refine s_y (y_build (vs := []) (v := (.agg zBc.toArray)) rfl (fun _ => by kernel_rfl)) rfl ?_
    have hz73 := (nl (nl hk21.size hk30.size) hk45.size)
    have hb74 := (hk57.get (hk53.get0 (hk45.get0 (hk30.get0 (hk21.get0 hb10)))) (Nat.ne_of_lt (nt (nt (lt_of_get hb10) hz73) (Nat.le_refl _))))
    refine s_e0 (e_storeV (cs' := zBc.toArray) zBc g69 (v := (.agg zBc.toArray)) rfl rfl sz36 hb74 rfl rfl rfl) ?_
    rintro _ w75 ⟨hb76, hk77⟩
    have ka78 := (Kp.fresh ka58 hk77 fun _ e => nl (nl hk7.size (Nat.le_refl _)) (Nat.le_of_eq e.symm))
    refine s_y (y_assign (v := (Vi 4)) rfl) rfl ?_
    refine s_nil (hK72 _ _ (genC [(6, (Vp w5.heap.size 0)), (7, (Vi 4))] ⟨g69, rfl, trivial⟩ ?_))
    clear hK72; rintro E ⟨g79, g80, -⟩
    refine ret (hret _ _ [(bv (⟨0, 0, (⟨(⟨0, 0, 0, 0, 0, 0, 0, 0, 0, 0, 0, 0, 0, 0, 0, 0⟩ : V6), 0⟩ : T6), (⟨(⟨0, 0, 0, 0⟩ : V4), 0⟩ : T4), false, 0⟩ : Binding)), (Vi 4)] ⟨⟨_, g79, (rd_agg (vs := zBc) ag36 (On.now hb76) (by kernel_rfl) rfl)⟩, g80, trivial⟩ ?_)
    have hf81 := (BibIs.kp (BibIs.kp (BibIs.k0 (BibIs.k0 hf43 hk45) hk53) hk57 (fun b hb => (fun e => (fun hb => Nat.lt_irrefl _ (nt (BibIs.lt h _ hb) (nl hz59 (Nat.le_refl _)))) (e ▸ hb))) (Nat.ne_of_lt (nt (nt (hT0.lt) hz59) (Nat.le_refl _)))) hk77 (fun b hb => (fun e => (fun hb => Nat.lt_irrefl _ (nt (BibIs.lt h _ hb) (nl hk7.size (Nat.le_refl _)))) (e ▸ hb))) (Nat.ne_of_lt (nt (nt (hT0.lt) hk7.size) (Nat.le_refl _))))
    exact ⟨.inl ⟨(fun q hq => by rw [hq47] at hq; cases hq), rfl, hf81⟩, ka78⟩
  · have ka82 := (Kp.then0 ka31 hk45)
    refine s_y (y_move (v := (.tuple #[(bv q46.1), Vt])) rfl) rfl ?_
    refine s_y (y_ext rfl (v := (bv q46.1)) rfl) rfl ?_
    refine s_y (y_ext rfl (v := Vt) rfl) rfl ?_
    refine s_e (e_alloc ze36) rfl ?_
    rintro _ w83 ⟨rfl, hb84, hk85⟩
    have ka86 := (Kp.then0 ka82 hk85)
    refine s_e0 (e_storeV (cs' := q46.1.cs.toArray) q46.1.cs rfl (v := (bv q46.1)) rfl rfl sz36 hb84 rfl rfl rfl) ?_
    rintro _ w87 ⟨hb88, hk89⟩
    have hz91 := (nl (nl (nl (nl hk7.size hk11.size) hk21.size) hk30.size) hk45.size)
    have ka90 := (Kp.fresh ka86 hk89 fun _ e => nl (nl hz91 (Nat.le_refl _)) (Nat.le_of_eq e.symm))
    refine s_y (y_assign (v := Vt) rfl) rfl ?_
    refine s_nil (hK41 _ _ (genC [(0, (Vp g.tb 0)), (1, (Vi 17)), (6, (Vp w5.heap.size 0)), (8, (Vp w44.heap.size 0)), (9, Vt)] ⟨g37, g38, g40, rfl, rfl, trivial⟩ ?_))
    clear hK41; rintro E ⟨g92, g93, g94, g95, g96, -⟩
    refine seq fun K97 hK97 => ?_
    refine seq fun K98 hK98 => ?_
    refine reg ?_
    refine s_y (y_move (v := Vt) g96) rfl ?_
    refine s_y (y_not rfl) rfl ?_
    refine s_y (y_move (v := Vf) rfl) rfl ?_
    refine s_gy (.yes rfl rfl) (y_fld fo36_4 g95) rfl ?_
    refine s_gy (.yes rfl rfl) (y_load (v := (.bool (q46.1.static))) rfl (rd_sc sc4 (On.now hb88) rfl)) rfl ?_
    refine s_gy (.yes rfl rfl) (y_not rfl) rfl ?_
    refine s_y (y_pick_f rfl (v := (.bool (!(q46.1.static)))) rfl) rfl ?_
    refine s_nil (hK98 _ _ (genC [(0, (Vp g.tb 0)), (1, (Vi 17)), (6, (Vp w5.heap.size 0)), (8, (Vp w44.heap.size 0)), (32, (.bool (!(q46.1.static))))] ⟨g92, g93, g94, g95, rfl, trivial⟩ ?_))
    clear hK98; rintro E ⟨g99, g100, g101, g102, g103, -⟩
    refine cond_b g103 (fun c104 => ?_) (fun c104 => ?_)
    · refine seq fun K105 hK105 => ?_
      refine reg ?_
      refine s_y (y_build (vs := []) (v := (.agg zBc.toArray)) rfl (fun _ => by kernel_rfl)) rfl ?_
      have hz106 := (nl (nl hk21.size hk30.size) hk45.size)
      have hb107 := (hk89.get (hk85.get0 (hk45.get0 (hk30.get0 (hk21.get0 hb10)))) (Nat.ne_of_lt (nt (nt (lt_of_get hb10) hz106) (Nat.le_refl _))))
      refine s_e0 (e_storeV (cs' := zBc.toArray) zBc g101 (v := (.agg zBc.toArray)) rfl rfl sz36 hb107 rfl rfl rfl) ?_
      rintro _ w108 ⟨hb109, hk110⟩
      have ka111 := (Kp.fresh ka90 hk110 fun _ e => nl (nl hk7.size (Nat.le_refl _)) (Nat.le_of_eq e.symm))
      refine s_y (y_assign (v := (Vi 4)) rfl) rfl ?_
      refine s_nil (hK105 _ _ (genC [(6, (Vp w5.heap.size 0)), (7, (Vi 4))] ⟨g101, rfl, trivial⟩ ?_))
      clear hK105; rintro E ⟨g112, g113, -⟩
      refine ret (hret _ _ [(bv (⟨0, 0, (⟨(⟨0, 0, 0, 0, 0, 0, 0, 0, 0, 0, 0, 0, 0, 0, 0, 0⟩ : V6), 0⟩ : T6), (⟨(⟨0, 0, 0, 0⟩ : V4), 0⟩ : T4), false, 0⟩ : Binding)), (Vi 4)] ⟨⟨_, g112, (rd_agg (vs := zBc) ag36 (On.now hb109) (by kernel_rfl) rfl)⟩, g113, trivial⟩ ?_)
      have hf114 := (BibIs.kp (BibIs.kp (BibIs.k0 (BibIs.k0 hf43 hk45) hk85) hk89 (fun b hb => (fun e => (fun hb => Nat.lt_irrefl _ (nt (BibIs.lt h _ hb) (nl hz91 (Nat.le_refl _)))) (e ▸ hb))) (Nat.ne_of_lt (nt (nt (hT0.lt) hz91) (Nat.le_refl _)))) hk110 (fun b hb => (fun e => (fun hb => Nat.lt_irrefl _ (nt (BibIs.lt h _ hb) (nl hk7.size (Nat.le_refl _)))) (e ▸ hb))) (Nat.ne_of_lt (nt (nt (hT0.lt) hk7.size) (Nat.le_refl _))))
      exact ⟨.inl ⟨(fun q hq => by rw [hq48] at hq; cases hq; exact (by simpa using c104)), rfl, hf114⟩, ka111⟩
    · refine skip (hK97 _ _ (genC [(0, (Vp g.tb 0)), (1, (Vi 17)), (6, (Vp w5.heap.size 0)), (8, (Vp w44.heap.size 0))] ⟨g99, g100, g101, g102, trivial⟩ ?_))
      clear hK97; rintro E ⟨g115, g116, g117, g118, -⟩
      refine seq fun K119 hK119 => ?_
      refine reg ?_
      refine s_y (y_move (v := (Vp g.tb 0)) g115) rfl ?_
      refine s_y (y_load (v := (bv q46.1)) g118 (rd_agg (vs := q46.1.cs) ag36 (On.now hb88) (by kernel_rfl) rfl)) rfl ?_
      have hf120 := (BibIs.kp (BibIs.k0 (BibIs.k0 hf43 hk45) hk85) hk89 (fun b hb => (fun e => (fun hb => Nat.lt_irrefl _ (nt (BibIs.lt h _ hb) (nl hz91 (Nat.le_refl _)))) (e ▸ hb))) (Nat.ne_of_lt (nt (nt (hT0.lt) hz91) (Nat.le_refl _))))
      have hr9 := hr q46 hq49
      refine s_e (e_call ca50 (args := [(Vp g.tb 0), (bv q46.1)]) rfl (cutb_spec ok hf120 q46 hq49 q46.1 rfl rfl rfl rfl (hU q46 hq49) (hV q46 hq49) hr9)) rfl ?_
      rintro _ w121 ⟨rfl, hC9, hk122⟩
      have ka123 := (Kp.trans ka90 hk122 (fun _ _ e => (fun e => e.elim (fun e => (.inl e)) (fun e => e.elim (fun e => (.inr (.inl e))) (fun e => e.elim (fun e => (.inr (.inr (.inl e)))) (fun e => e.elim (fun e => (.inr (.inr (.inr (.inl e))))) (fun e => e.elim (fun e => (.inr (.inr (.inr (.inr (.inl e)))))) (fun e => (.inr (.inr (.inr (.inr (.inr (.inl e)))))))))))) e))
      have hb124 := BibIs.blk hC9; have hm125 := BibIs.map hC9; have hT126 := BibIs.tb hC9
      refine s_nil (hK119 _ _ (genC [(0, (Vp g.tb 0)), (1, (Vi 17)), (6, (Vp w5.heap.size 0)), (8, (Vp w44.heap.size 0))] ⟨g115, g116, g117, g118, trivial⟩ ?_))
      clear hK119; rintro E ⟨g127, g128, g129, g130, -⟩
      refine seq fun K131 hK131 => ?_
      refine regD (fun k => k = (g.p 2).mb ∨ k = w5.heap.size) (.take 0 (.take 1 (.take 2 (.take 4 (.take 5 (.take 8 (.take 9 (.one 3 (.take 6 (.take 7 (.one 10 (.one 11 (.take 12 .done))))))))))))) mixed (by kernel_rfl) fun w132 hh133 hk134 => ?_
      have ka135 := (Kp.then0 ka123 hk134)
      have hz136 := (nl (nl hk21.size hk30.size) hk45.size)
      refine o_y rfl (y_load (v := (bv q46.1)) g130 (rd_agg (vs := q46.1.cs) ag36 (On.kp (hk134.get0 (hk122.get hb88 (not_or.2 ⟨(Nat.ne_of_gt (nt (nt (lt_of_get hb0) hz91) (Nat.le_refl _))), (not_or.2 ⟨(Nat.ne_of_gt (nt (nt (hm0.lt) hz91) (Nat.le_refl _))), (not_or.2 ⟨(Nat.ne_of_gt (nt (nt ((BibIs.lt h _ (mem_blocks (List.mem_of_getElem? (i := 2) (rfl : g.blocks[2]? = some g.i1.ib))))) hz91) (Nat.le_refl _))), (not_or.2 ⟨(Nat.ne_of_gt (nt (nt ((BibIs.lt h _ (mem_blocks (List.mem_of_getElem? (i := 3) (rfl : g.blocks[3]? = some g.i1.sb))))) hz91) (Nat.le_refl _))), (not_or.2 ⟨(Nat.ne_of_gt (nt (nt ((BibIs.lt h _ (mem_blocks (List.mem_of_getElem? (i := 4) (rfl : g.blocks[4]? = some g.i2.ib))))) hz91) (Nat.le_refl _))), (Nat.ne_of_gt (nt (nt ((BibIs.lt h _ (mem_blocks (List.mem_of_getElem? (i := 5) (rfl : g.blocks[5]? = some g.i2.sb))))) hz91) (Nat.le_refl _)))⟩)⟩)⟩)⟩)⟩))) (not_or.2 ⟨(Nat.ne_of_gt (nt (nt ((BibIs.lt h _ (mem_blocks (List.mem_of_getElem? (i := 14) (rfl : g.blocks[14]? = some (g.p 2).mb))))) hz91) (Nat.le_refl _))), (Nat.ne_of_gt (nt (nt (lt_of_get hb10) hz136) (Nat.le_refl _)))⟩)) (by kernel_rfl) rfl)) ?_
      refine o_y rfl (y_move (v := (Vp g.tb 0)) g127) ?_
      refine o_y rfl (y_move (v := (Vi 17)) g128) ?_
      refine o_y rfl (y_nil rfl) ?_
      refine o_y rfl (y_fld fo95_6 rfl) ?_
      refine o_y rfl (y_fld fo36_3 g130) ?_
      refine o_y rfl (y_load (v := (t4 q46.1.out)) rfl (rd_agg (vs := q46.1.out.cs) ag34 (On.kp (hk134.get0 (hk122.get hb88 (not_or.2 ⟨(Nat.ne_of_gt (nt (nt (lt_of_get hb0) hz91) (Nat.le_refl _))), (not_or.2 ⟨(Nat.ne_of_gt (nt (nt (hm0.lt) hz91) (Nat.le_refl _))), (not_or.2 ⟨(Nat.ne_of_gt (nt (nt ((BibIs.lt h _ (mem_blocks (List.mem_of_getElem? (i := 2) (rfl : g.blocks[2]? = some g.i1.ib))))) hz91) (Nat.le_refl _))), (not_or.2 ⟨(Nat.ne_of_gt (nt (nt ((BibIs.lt h _ (mem_blocks (List.mem_of_getElem? (i := 3) (rfl : g.blocks[3]? = some g.i1.sb))))) hz91) (Nat.le_refl _))), (not_or.2 ⟨(Nat.ne_of_gt (nt (nt ((BibIs.lt h _ (mem_blocks (List.mem_of_getElem? (i := 4) (rfl : g.blocks[4]? = some g.i2.ib))))) hz91) (Nat.le_refl _))), (Nat.ne_of_gt (nt (nt ((BibIs.lt h _ (mem_blocks (List.mem_of_getElem? (i := 5) (rfl : g.blocks[5]? = some g.i2.sb))))) hz91) (Nat.le_refl _)))⟩)⟩)⟩)⟩)⟩))) (not_or.2 ⟨(Nat.ne_of_gt (nt (nt ((BibIs.lt h _ (mem_blocks (List.mem_of_getElem? (i := 14) (rfl : g.blocks[14]? = some (g.p 2).mb))))) hz91) (Nat.le_refl _))), (Nat.ne_of_gt (nt (nt (lt_of_get hb10) hz136) (Nat.le_refl _)))⟩)) (by kernel_rfl) rfl)) ?_
      refine o_one ?_
      refine c_e rfl (e_call ca51 (args := [(Vi 17)]) rfl (kind_spec 17 _)) ?_
      rintro _ w137 ⟨rfl, hk138⟩
      have ka139 := (Kp.then0 ka135 hk138)
      have ks140 : Kp (fun k => k = (g.p 2).mb ∨ k = w5.heap.size) w132 w137 := (Kp.then0 (Kp.refl _ _) hk138)
      refine ⟨ks140, ?_⟩
      refine o_y rfl (y_idxA ao93 sz92 rfl (i := 2) rfl (by omega)) ?_
      refine o_y rfl (y_load (v := (Vp ((g.p 2).pb) 0)) rfl (rd_sc sc92 (On.kp (hk134.get0 hb124) (not_or.2 ⟨(blocks_ne h.nd (i := 0) (j := 14) (by decide) rfl rfl), (Nat.ne_of_lt (nt (nt (lt_of_get hb0) hk7.size) (Nat.le_refl _)))⟩)) rfl)) ?_
      refine o_one ?_
      have hf141 := (BibIs.k0 (BibIs.k0 hC9 hk134) hk138)
      refine c_e rfl (e_call ca57 (args := [(Vp ((g.p 2).pb) 0), (t4 q46.1.out)]) rfl (release_spec (BibIs.pool hf141 2 (by omega)) (ok.pool 2 (by omega)) q46.1.out hr9.2.2)) ?_
      rintro _ w142 ⟨rfl, hp144, hk143⟩
      have hD9 := BibIs.pool_put hf141 (k := 2) (by omega) hp144 hk143
      have ka145 := (Kp.trans ka139 hk143 (fun _ _ e => (fun e => (.inr (.inr (.inr (.inr (.inr (.inr e))))))) e))
      have ks146 := (Kp.trans ks140 hk143 (fun _ _ e => (fun e => (.inl e)) e))
      refine ⟨ks146, ?_⟩
      refine o_one ?_
      have hb147 := (hk143.get (hk138.get0 (hk134.get0 (hk122.get (hk89.get (hk85.get0 (hk45.get0 (hk30.get0 (hk21.get0 hb10)))) (Nat.ne_of_lt (nt (nt (lt_of_get hb10) hz136) (Nat.le_refl _)))) (not_or.2 ⟨(Nat.ne_of_gt (nt (nt (lt_of_get hb0) hk7.size) (Nat.le_refl _))), (not_or.2 ⟨(Nat.ne_of_gt (nt (nt (hm0.lt) hk7.size) (Nat.le_refl _))), (not_or.2 ⟨(Nat.ne_of_gt (nt (nt ((BibIs.lt h _ (mem_blocks (List.mem_of_getElem? (i := 2) (rfl : g.blocks[2]? = some g.i1.ib))))) hk7.size) (Nat.le_refl _))), (not_or.2 ⟨(Nat.ne_of_gt (nt (nt ((BibIs.lt h _ (mem_blocks (List.mem_of_getElem? (i := 3) (rfl : g.blocks[3]? = some g.i1.sb))))) hk7.size) (Nat.le_refl _))), (not_or.2 ⟨(Nat.ne_of_gt (nt (nt ((BibIs.lt h _ (mem_blocks (List.mem_of_getElem? (i := 4) (rfl : g.blocks[4]? = some g.i2.ib))))) hk7.size) (Nat.le_refl _))), (Nat.ne_of_gt (nt (nt ((BibIs.lt h _ (mem_blocks (List.mem_of_getElem? (i := 5) (rfl : g.blocks[5]? = some g.i2.sb))))) hk7.size) (Nat.le_refl _)))⟩)⟩)⟩)⟩)⟩)))) (Nat.ne_of_gt (nt (nt ((BibIs.lt h _ (mem_blocks (List.mem_of_getElem? (i := 14) (rfl : g.blocks[14]? = some (g.p 2).mb))))) hk7.size) (Nat.le_refl _))))
      refine c_e0 rfl (e_storeV (cs' := q46.1.cs.toArray) q46.1.cs g129 (v := (bv q46.1)) rfl rfl sz36 hb147 rfl rfl rfl) ?_
      rintro _ w148 ⟨hb149, hk150⟩
      have ka151 := (Kp.fresh ka145 hk150 fun _ e => nl (nl hk7.size (Nat.le_refl _)) (Nat.le_of_eq e.symm))
      have ks152 := (Kp.trans ks146 hk150 (fun _ _ e => (fun e => (.inr e)) e))
      refine ⟨ks152, ?_⟩
      refine o_y rfl (y_assign (v := (Vi ((pRel (g.p 2).l (st.h 2) q46.1.out).1))) rfl) ?_
      refine o_done (hK131 _ _ (genC [(6, (Vp w5.heap.size 0)), (7, (Vi ((pRel (g.p 2).l (st.h 2) q46.1.out).1)))] ⟨g129, rfl, trivial⟩ ?_))
      clear hK131; rintro E ⟨g153, g154, -⟩
      refine ret (hret _ _ [(bv q46.1), (Vi ((pRel (g.p 2).l (st.h 2) q46.1.out).1))] ⟨⟨_, g153, (rd_agg (vs := q46.1.cs) ag36 (On.now hb149) (by kernel_rfl) rfl)⟩, g154, trivial⟩ ?_)
      have hf155 := (BibIs.kp hD9 hk150 (fun b hb => (fun e => (fun hb => Nat.lt_irrefl _ (nt (BibIs.lt h _ (bfp_cut hb)) (nl hk7.size (Nat.le_refl _)))) (e ▸ hb))) (Nat.ne_of_lt (nt (nt (hT0.lt) hk7.size) (Nat.le_refl _))))
      exact ⟨.inr ⟨_, hq48, hq49, by simpa using c104, rfl, hf155⟩, ka151⟩

end Go.Proofs.YtdcnblafepgheaaDoor
