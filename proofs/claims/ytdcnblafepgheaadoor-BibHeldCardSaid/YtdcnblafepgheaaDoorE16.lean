/-
  Written by a program (wip/walks).
-/
import Derived.Test.YtdcnblafepgheaaDoorE15
namespace Go.Proofs.YtdcnblafepgheaaDoor
open Go Go.V
set_option maxRecDepth 100000
def bindE (g : BibG) (st : BibS) (k : Nat) (p : Int) (t : T6) (u : T4) : Int :=
  if isPort t.port ∧ isPort u.port ∧ u.addr ∈ (g.p k).l then (if (aget (st.h k) u).isSome then 5 else mayE g st p t) else 1
theorem free_of {l : List V4} {held : List (T4 × Bool)} {u : T4} (h2 : ¬ ¬ isPort u.port) (h3 : ¬ ¬ u.addr ∈ l) (h4 : ¬ (owns l u ∧ aget held u = some false)) (h5 : ¬ (owns l u ∧ aget held u = some true)) : owns l u ∧ aget held u = none := by
  have h2 := Decidable.not_not.1 h2; have h3 := Decidable.not_not.1 h3
  have ho : owns l u := ⟨h2, h3⟩
  refine ⟨ho, ?_⟩
  cases ha : aget held u with
  | none => rfl
  | some b => cases b with
    | false => exact absurd ⟨ho, ha⟩ h4
    | true => exact absurd ⟨ho, ha⟩ h5
theorem pRes_of {l : List V4} {held : List (T4 × Bool)} {u : T4} (h : owns l u ∧ aget held u = none) : pRes l held u = (0, held ++ [(u, true)]) := by
  unfold pRes; rw [if_pos h.1, h.2]
theorem bindE_may {g : BibG} {st : BibS} {k : Nat} {p : Int} {t : T6} {u : T4} (h1 : ¬ ¬ isPort t.port) (h2 : ¬ ¬ isPort u.port) (h3 : ¬ ¬ u.addr ∈ (g.p k).l) (h4 : ¬ (owns (g.p k).l u ∧ aget (st.h k) u = some false)) (h5 : ¬ (owns (g.p k).l u ∧ aget (st.h k) u = some true)) : bindE g st k p t u = mayE g st p t := by
  have h1 := Decidable.not_not.1 h1; have h2 := Decidable.not_not.1 h2; have h3 := Decidable.not_not.1 h3
  have ho : owns (g.p k).l u := ⟨h2, h3⟩
  unfold bindE
  rw [if_pos ⟨h1, h2, h3⟩]
  cases ha : aget (st.h k) u with
  | none => rfl
  | some b => cases b with
    | false => exact absurd ⟨ho, ha⟩ h4
    | true => exact absurd ⟨ho, ha⟩ h5
theorem bind_0 {g : BibG} {st : BibS} {w : World} (ok : BibOk g) (h : BibIs g st w) (t : T6) (u : T4) (ht : -9223372036854775808 ≤ t.port ∧ t.port ≤ 9223372036854775807) (hu : -9223372036854775808 ≤ u.port ∧ u.port ≤ 9223372036854775807) (hle : ∀ q ∈ st.l, q.1.id ≤ st.last) (hla : 0 ≤ st.last ∧ st.last ≤ 4611686018427387904) (hout : ∀ q ∈ st.l, q.1.proto = 1 → aget (st.h 0) q.1.out ≠ none) : Rets Tryd.prog 19 #[(.pointer (some ⟨g.tb, 0, none⟩)), (.int .i64 1), (t6 t), (t4 u)] w fun v w' => ((bindE g st 0 1 t u ≠ 0 ∧ v = .tuple #[bv zeroB, .int .i64 (bindE g st 0 1 t u)] ∧ BibIs g st w') ∨ (bindE g st 0 1 t u = 0 ∧ ∃ x, v = .tuple #[bv ⟨st.last + 1, 1, t, u, true, 0⟩, .int .i64 0] ∧ w.heap.size ≤ x ∧ BibIs g ⟨st.last + 1, st.l ++ [(⟨st.last + 1, 1, t, u, true, 0⟩, x)], setH st.h 0 (st.h 0 ++ [(u, true)])⟩ w')) ∧ Kp (fun k => k = g.tb ∨ k = g.mb ∨ k = g.i1.ib ∨ k = g.i1.sb ∨ k = g.i2.ib ∨ k = g.i2.sb ∨ k = (g.p 0).mb) w w' := by
  refine enter Tryd.func19 rfl Tryd.ntmps19 rfl fun Q hret hend E hE => ?_
  have g1 : E 0 = (Vp g.tb 0) := hE 0
  have g2 : E 1 = (Vi 1) := hE 1
  have g3 : E 2 = (t6 t) := hE 2
  have g4 : E 3 = (t4 u) := hE 3
  clear hE
  have hb0 := h.blk; have hm0 := h.map; have hT0 := h.tb; have hn1 : g.tb ≠ g.mb := blk_ne_map h.blk h.map
  refine seq fun K5 hK5 => ?_
  refine reg ?_
  refine s_e (e_box (v := (t6 t)) g3) rfl ?_
  rintro _ w6 ⟨rfl, hb7, hk8⟩
  have ka9 : Kp (fun k => k = g.tb ∨ k = g.mb ∨ k = g.i1.ib ∨ k = g.i1.sb ∨ k = g.i2.ib ∨ k = g.i2.sb ∨ k = (g.p 0).mb) w w6 := (Kp.then0 (Kp.refl _ _) hk8)
  refine s_e (e_box (v := (t4 u)) g4) rfl ?_
  rintro _ w10 ⟨rfl, hb11, hk12⟩
  have ka13 := (Kp.then0 ka9 hk12)
  refine s_e (e_alloc ze36) rfl ?_
  rintro _ w14 ⟨rfl, hb15, hk16⟩
  have ka17 := (Kp.then0 ka13 hk16)
  refine s_y (y_assign (v := (Vi 0)) rfl) rfl ?_
  refine s_nil (hK5 _ _ (genC [(0, (Vp g.tb 0)), (1, (Vi 1)), (6, (Vp w.heap.size 0)), (7, (Vp w6.heap.size 0)), (8, (Vp w10.heap.size 0))] ⟨g1, g2, rfl, rfl, rfl, trivial⟩ ?_))
  clear hK5; rintro E ⟨g18, g19, g20, g21, g22, -⟩
  refine seq fun K23 hK23 => ?_
  refine seq fun K24 hK24 => ?_
  refine reg ?_
  refine s_y (y_move (v := (Vp g.tb 0)) g18) rfl ?_
  have hf25 := (BibIs.k0 (BibIs.k0 (BibIs.k0 h hk8) hk12) hk16)
  refine s_e (e_call ca49 (args := [(Vp g.tb 0)]) rfl (bnone_spec hf25)) rfl ?_
  rintro _ w26 ⟨rfl, hk27⟩
  have ka28 := (Kp.then0 ka17 hk27)
  refine s_nil (hK24 _ _ (genC [(0, (Vp g.tb 0)), (1, (Vi 1)), (6, (Vp w.heap.size 0)), (7, (Vp w6.heap.size 0)), (8, (Vp w10.heap.size 0)), (16, Vf)] ⟨g18, g19, g20, g21, g22, rfl, trivial⟩ ?_))
  clear hK24; rintro E ⟨g29, g30, g31, g32, g33, g34, -⟩
  refine cond_f g34 ?_
  refine skip (hK23 _ _ (genC [(0, (Vp g.tb 0)), (1, (Vi 1)), (6, (Vp w.heap.size 0)), (7, (Vp w6.heap.size 0)), (8, (Vp w10.heap.size 0))] ⟨g29, g30, g31, g32, g33, trivial⟩ ?_))
  clear hK23; rintro E ⟨g35, g36, g37, g38, g39, -⟩
  refine seq fun K40 hK40 => ?_
  refine reg ?_
  refine s_y (y_move (v := (Vi 1)) g36) rfl ?_
  refine s_e (e_call ca51 (args := [(Vi 1)]) rfl (kind_spec 1 _)) rfl ?_
  rintro _ w41 ⟨rfl, hk42⟩
  have ka43 := (Kp.then0 ka28 hk42)
  refine s_y (y_assign (v := (Vi 0)) rfl) rfl ?_
  refine s_nil (hK40 _ _ (genC [(0, (Vp g.tb 0)), (1, (Vi 1)), (6, (Vp w.heap.size 0)), (7, (Vp w6.heap.size 0)), (8, (Vp w10.heap.size 0)), (10, (Vi 0))] ⟨g35, g36, g37, g38, g39, rfl, trivial⟩ ?_))
  clear hK40; rintro E ⟨g44, g45, g46, g47, g48, g49, -⟩
  refine seq fun K50 hK50 => ?_
  refine block ?_
  refine seq fun K51 hK51 => ?_
  refine reg ?_
  refine s_y (y_move (v := (Vi 0)) g49) rfl ?_
  refine s_y (y_lss rfl rfl) rfl ?_
  refine s_y (y_assign (v := Vf) rfl) rfl ?_
  refine s_nil (hK51 _ _ (genC [(0, (Vp g.tb 0)), (1, (Vi 1)), (6, (Vp w.heap.size 0)), (7, (Vp w6.heap.size 0)), (8, (Vp w10.heap.size 0)), (10, (Vi 0)), (20, Vf)] ⟨g44, g45, g46, g47, g48, g49, rfl, trivial⟩ ?_))
  clear hK51; rintro E ⟨g52, g53, g54, g55, g56, g57, g58, -⟩
  refine cond_f g58 ?_
  refine seq fun K59 hK59 => ?_
  refine regD (fun _ => False) (.take 0 (.take 1 (.one 2 (.take 3 (.take 4 (.take 5 (.take 6 (.one 7 (.take 8 (.take 9 (.take 10 (.take 11 (.take 12 (.take 13 (.take 14 (.take 15 (.take 16 (.take 17 (.take 18 (.one 19 (.take 20 (.take 21 (.take 22 .done))))))))))))))))))))))) mixed (by kernel_rfl) fun w60 hh61 hk62 => ?_
  have ka63 := (Kp.then0 ka43 hk62)
  refine o_y rfl (y_fld fo32_1 g54) ?_
  refine o_y rfl (y_load (v := (Vi (t.port))) rfl (rd_sc sc3 (On.kp (hk62.get0 (hk42.get0 (hk27.get0 (hk16.get0 (hk12.get0 hb7))))) id) rfl)) ?_
  refine o_one ?_
  refine c_e rfl (e_call ca53 (args := [(Vi (t.port))]) rfl (bport_spec t.port _)) ?_
  rintro _ w64 ⟨rfl, hk65⟩
  have ka66 := (Kp.then0 ka63 hk65)
  have ks67 : Kp (fun _ => False) w60 w64 := (Kp.then0 (Kp.refl _ _) hk65)
  refine ⟨ks67, ?_⟩
  refine o_y rfl (y_notd rfl) ?_
  refine o_y rfl (y_move (v := (.bool (decide (¬ (isPort t.port))))) rfl) ?_
  by_cases c68 : ¬ (isPort t.port)
  · refine o_no rfl (.no rfl (c := true) (congrArg Value.bool (decide_eq_true c68)) rfl) ?_
    refine o_no rfl (.no rfl (c := true) (congrArg Value.bool (decide_eq_true c68)) rfl) ?_
    refine o_one ?_
    refine c_no rfl (.no rfl (c := true) (congrArg Value.bool (decide_eq_true c68)) rfl) ks67 ?_
    refine o_no rfl (.no rfl (c := true) (congrArg Value.bool (decide_eq_true c68)) rfl) ?_
    refine o_y rfl (y_pick_t (congrArg Value.bool (decide_eq_true c68)) (v := Vt) rfl) ?_
    refine o_y rfl (y_move (v := Vt) rfl) ?_
    refine o_no rfl (.no rfl (c := true) rfl rfl) ?_
    refine o_no rfl (.no rfl (c := true) rfl rfl) ?_
    refine o_no rfl (.no rfl (c := true) rfl rfl) ?_
    refine o_no rfl (.no rfl (c := true) rfl rfl) ?_
    refine o_no rfl (.no rfl (c := true) rfl rfl) ?_
    refine o_no rfl (.no rfl (c := true) rfl rfl) ?_
    refine o_no rfl (.no rfl (c := true) rfl rfl) ?_
    refine o_no rfl (.no rfl (c := true) rfl rfl) ?_
    refine o_one ?_
    refine c_no rfl (.no rfl (c := true) rfl rfl) ks67 ?_
    refine o_no rfl (.no rfl (c := true) rfl rfl) ?_
    refine o_y rfl (y_pick_t rfl (v := Vt) rfl) ?_
    refine o_y rfl (y_assign (v := Vt) rfl) ?_
    refine o_done (hK59 _ _ (genC [(0, (Vp g.tb 0)), (1, (Vi 1)), (6, (Vp w.heap.size 0)), (7, (Vp w6.heap.size 0)), (8, (Vp w10.heap.size 0)), (10, (Vi 0)), (24, Vt)] ⟨g52, g53, g54, g55, g56, g57, rfl, trivial⟩ ?_))
    clear hK59; rintro E ⟨g69, g70, g71, g72, g73, g74, g75, -⟩
    refine cond_t g75 ?_
    refine seq fun K76 hK76 => ?_
    refine reg ?_
    refine s_y (y_build (vs := []) (v := (.agg zBc.toArray)) rfl (fun _ => by kernel_rfl)) rfl ?_
    have hb77 := (hk65.get0 (hk62.get0 (hk42.get0 (hk27.get0 hb15))))
    refine s_e0 (e_storeV (cs' := zBc.toArray) zBc g73 (v := (.agg zBc.toArray)) rfl rfl sz36 hb77 rfl rfl rfl) ?_
    rintro _ w78 ⟨hb79, hk80⟩
    have ka81 := (Kp.fresh ka66 hk80 fun _ e => nl (nl (nl hk8.size hk12.size) (Nat.le_refl _)) (Nat.le_of_eq e.symm))
    refine s_y (y_assign (v := (Vi 1)) rfl) rfl ?_
    refine s_nil (hK76 _ _ (genC [(8, (Vp w10.heap.size 0)), (9, (Vi 1))] ⟨g73, rfl, trivial⟩ ?_))
    clear hK76; rintro E ⟨g82, g83, -⟩
    refine ret (hret _ _ [(bv (⟨0, 0, (⟨(⟨0, 0, 0, 0, 0, 0, 0, 0, 0, 0, 0, 0, 0, 0, 0, 0⟩ : V6), 0⟩ : T6), (⟨(⟨0, 0, 0, 0⟩ : V4), 0⟩ : T4), false, 0⟩ : Binding)), (Vi 1)] ⟨⟨_, g82, (rd_agg (vs := zBc) ag36 (On.now hb79) (by kernel_rfl) rfl)⟩, g83, trivial⟩ ?_)
    have hf84 := (BibIs.kp (BibIs.k0 (BibIs.k0 (BibIs.k0 (BibIs.k0 hf25 hk27) hk42) hk62) hk65) hk80 (fun b hb => (fun e => (fun hb => Nat.lt_irrefl _ (nt (BibIs.lt h _ hb) (nl (nl hk8.size hk12.size) (Nat.le_refl _)))) (e ▸ hb))) (Nat.ne_of_lt (nt (nt (hT0.lt) (nl hk8.size hk12.size)) (Nat.le_refl _))))
    have hbe : bindE g st 0 1 t u = 1 := by grind [bindE, owns]
    have hbn : bindE g st 0 1 t u ≠ 0 := by rw [hbe]; first | decide | assumption
    exact ⟨.inl ⟨hbn, by rw [hbe]; rfl, hf84⟩, ka81⟩
  · refine o_gy rfl (.yes rfl (congrArg Value.bool (decide_eq_false c68))) (y_fld fo34_1 g55) ?_
    refine o_gy rfl (.yes rfl (congrArg Value.bool (decide_eq_false c68))) (y_load (v := (Vi (u.port))) rfl (rd_sc sc3 (On.kp (hk62.get0 (hk42.get0 (hk27.get0 (hk16.get0 hb11)))) id) rfl)) ?_
    refine o_one ?_
    refine c_ge rfl (.yes rfl (congrArg Value.bool (decide_eq_false c68))) (e_call ca53 (args := [(Vi (u.port))]) rfl (bport_spec u.port _)) ?_
    rintro _ w85 ⟨rfl, hk86⟩
    have ka87 := (Kp.then0 ka66 hk86)
    have ks88 := (Kp.then0 ks67 hk86)
    refine ⟨ks88, ?_⟩
    refine o_gy rfl (.yes rfl (congrArg Value.bool (decide_eq_false c68))) (y_notd rfl) ?_
    refine o_y rfl (y_pick_f (congrArg Value.bool (decide_eq_false c68)) (v := (.bool (decide (¬ (isPort u.port))))) rfl) ?_
    refine o_y rfl (y_move (v := (.bool (decide (¬ (isPort u.port))))) rfl) ?_
    by_cases c89 : ¬ (isPort u.port)
    · refine o_no rfl (.no rfl (c := true) (congrArg Value.bool (decide_eq_true c89)) rfl) ?_
      refine o_no rfl (.no rfl (c := true) (congrArg Value.bool (decide_eq_true c89)) rfl) ?_
      refine o_no rfl (.no rfl (c := true) (congrArg Value.bool (decide_eq_true c89)) rfl) ?_
      refine o_no rfl (.no rfl (c := true) (congrArg Value.bool (decide_eq_true c89)) rfl) ?_
      refine o_no rfl (.no rfl (c := true) (congrArg Value.bool (decide_eq_true c89)) rfl) ?_
      refine o_no rfl (.no rfl (c := true) (congrArg Value.bool (decide_eq_true c89)) rfl) ?_
      refine o_no rfl (.no rfl (c := true) (congrArg Value.bool (decide_eq_true c89)) rfl) ?_
      refine o_no rfl (.no rfl (c := true) (congrArg Value.bool (decide_eq_true c89)) rfl) ?_
      refine o_one ?_
      refine c_no rfl (.no rfl (c := true) (congrArg Value.bool (decide_eq_true c89)) rfl) ks88 ?_
      refine o_no rfl (.no rfl (c := true) (congrArg Value.bool (decide_eq_true c89)) rfl) ?_
      refine o_y rfl (y_pick_t (congrArg Value.bool (decide_eq_true c89)) (v := Vt) rfl) ?_
      refine o_y rfl (y_assign (v := Vt) rfl) ?_
      refine o_done (hK59 _ _ (genC [(0, (Vp g.tb 0)), (1, (Vi 1)), (6, (Vp w.heap.size 0)), (7, (Vp w6.heap.size 0)), (8, (Vp w10.heap.size 0)), (10, (Vi 0)), (24, Vt)] ⟨g52, g53, g54, g55, g56, g57, rfl, trivial⟩ ?_))
      clear hK59; rintro E ⟨g90, g91, g92, g93, g94, g95, g96, -⟩
      refine cond_t g96 ?_
      refine seq fun K97 hK97 => ?_
      refine reg ?_
      refine s_y (y_build (vs := []) (v := (.agg zBc.toArray)) rfl (fun _ => by kernel_rfl)) rfl ?_
      have hb98 := (hk86.get0 (hk65.get0 (hk62.get0 (hk42.get0 (hk27.get0 hb15)))))
      refine s_e0 (e_storeV (cs' := zBc.toArray) zBc g94 (v := (.agg zBc.toArray)) rfl rfl sz36 hb98 rfl rfl rfl) ?_
      rintro _ w99 ⟨hb100, hk101⟩
      have ka102 := (Kp.fresh ka87 hk101 fun _ e => nl (nl (nl hk8.size hk12.size) (Nat.le_refl _)) (Nat.le_of_eq e.symm))
      refine s_y (y_assign (v := (Vi 1)) rfl) rfl ?_
      refine s_nil (hK97 _ _ (genC [(8, (Vp w10.heap.size 0)), (9, (Vi 1))] ⟨g94, rfl, trivial⟩ ?_))
      clear hK97; rintro E ⟨g103, g104, -⟩
      refine ret (hret _ _ [(bv (⟨0, 0, (⟨(⟨0, 0, 0, 0, 0, 0, 0, 0, 0, 0, 0, 0, 0, 0, 0, 0⟩ : V6), 0⟩ : T6), (⟨(⟨0, 0, 0, 0⟩ : V4), 0⟩ : T4), false, 0⟩ : Binding)), (Vi 1)] ⟨⟨_, g103, (rd_agg (vs := zBc) ag36 (On.now hb100) (by kernel_rfl) rfl)⟩, g104, trivial⟩ ?_)
      have hf105 := (BibIs.kp (BibIs.k0 (BibIs.k0 (BibIs.k0 (BibIs.k0 (BibIs.k0 hf25 hk27) hk42) hk62) hk65) hk86) hk101 (fun b hb => (fun e => (fun hb => Nat.lt_irrefl _ (nt (BibIs.lt h _ hb) (nl (nl hk8.size hk12.size) (Nat.le_refl _)))) (e ▸ hb))) (Nat.ne_of_lt (nt (nt (hT0.lt) (nl hk8.size hk12.size)) (Nat.le_refl _))))
      have hbe : bindE g st 0 1 t u = 1 := by grind [bindE, owns]
      have hbn : bindE g st 0 1 t u ≠ 0 := by rw [hbe]; first | decide | assumption
      exact ⟨.inl ⟨hbn, by rw [hbe]; rfl, hf105⟩, ka102⟩
    · refine o_gy rfl (.yes rfl (congrArg Value.bool (decide_eq_false c89))) (y_move (v := (Vp g.tb 0)) g52) ?_
      refine o_gy rfl (.yes rfl (congrArg Value.bool (decide_eq_false c89))) (y_move (v := (Vi 0)) g57) ?_
      refine o_gy rfl (.yes rfl (congrArg Value.bool (decide_eq_false c89))) (y_nil rfl) ?_
      refine o_gy rfl (.yes rfl (congrArg Value.bool (decide_eq_false c89))) (y_fld fo95_6 rfl) ?_
      refine o_gy rfl (.yes rfl (congrArg Value.bool (decide_eq_false c89))) (y_idxA ao93 sz92 rfl (i := 0) rfl (by omega)) ?_
      refine o_gy rfl (.yes rfl (congrArg Value.bool (decide_eq_false c89))) (y_load (v := (Vp ((g.p 0).pb) 0)) rfl (rd_sc sc92 (On.kp (hk62.get0 (hk42.get0 (hk27.get0 (hk16.get0 (hk12.get0 (hk8.get0 hb0)))))) id) rfl)) ?_
      refine o_gy rfl (.yes rfl (congrArg Value.bool (decide_eq_false c89))) (y_fld fo34_0 g55) ?_
      refine o_gy rfl (.yes rfl (congrArg Value.bool (decide_eq_false c89))) (y_load (v := (v4 u.addr)) rfl (rd_agg (vs := [(u8 u.addr.a), (u8 u.addr.b), (u8 u.addr.c), (u8 u.addr.d)]) ag27 (On.kp (hk62.get0 (hk42.get0 (hk27.get0 (hk16.get0 hb11)))) id) (by kernel_rfl) rfl)) ?_
      refine o_one ?_
      have hf106 := (BibIs.k0 (BibIs.k0 (BibIs.k0 (BibIs.k0 (BibIs.k0 hf25 hk27) hk42) hk62) hk65) hk86)
      refine c_ge rfl (.yes rfl (congrArg Value.bool (decide_eq_false c89))) (e_call ca54 (args := [(Vp ((g.p 0).pb) 0), (v4 u.addr)]) rfl (has_spec (BibIs.pool hf106 0 (by omega)) (ok.pool 0 (by omega)) u.addr)) ?_
      rintro _ w107 ⟨rfl, hk108⟩
      have ka109 := (Kp.then0 ka87 hk108)
      have ks110 := (Kp.then0 ks88 hk108)
      refine ⟨ks110, ?_⟩
      refine o_gy rfl (.yes rfl (congrArg Value.bool (decide_eq_false c89))) (y_notd rfl) ?_
      refine o_y rfl (y_pick_f (congrArg Value.bool (decide_eq_false c89)) (v := (.bool (decide (¬ (u.addr ∈ (g.p 0).l))))) rfl) ?_
      refine o_y rfl (y_assign (v := (.bool (decide (¬ (u.addr ∈ (g.p 0).l))))) rfl) ?_
      refine o_done (hK59 _ _ (genC [(0, (Vp g.tb 0)), (1, (Vi 1)), (6, (Vp w.heap.size 0)), (7, (Vp w6.heap.size 0)), (8, (Vp w10.heap.size 0)), (10, (Vi 0)), (24, (.bool (decide (¬ (u.addr ∈ (g.p 0).l)))))] ⟨g52, g53, g54, g55, g56, g57, rfl, trivial⟩ ?_))
      clear hK59; rintro E ⟨g111, g112, g113, g114, g115, g116, g117, -⟩
      refine cond_d g117 (fun c118 => ?_) (fun c118 => ?_)
      · refine seq fun K119 hK119 => ?_
        refine reg ?_
        refine s_y (y_build (vs := []) (v := (.agg zBc.toArray)) rfl (fun _ => by kernel_rfl)) rfl ?_
        have hb120 := (hk108.get0 (hk86.get0 (hk65.get0 (hk62.get0 (hk42.get0 (hk27.get0 hb15))))))
        refine s_e0 (e_storeV (cs' := zBc.toArray) zBc g115 (v := (.agg zBc.toArray)) rfl rfl sz36 hb120 rfl rfl rfl) ?_
        rintro _ w121 ⟨hb122, hk123⟩
        have ka124 := (Kp.fresh ka109 hk123 fun _ e => nl (nl (nl hk8.size hk12.size) (Nat.le_refl _)) (Nat.le_of_eq e.symm))
        refine s_y (y_assign (v := (Vi 1)) rfl) rfl ?_
        refine s_nil (hK119 _ _ (genC [(8, (Vp w10.heap.size 0)), (9, (Vi 1))] ⟨g115, rfl, trivial⟩ ?_))
        clear hK119; rintro E ⟨g125, g126, -⟩
        refine ret (hret _ _ [(bv (⟨0, 0, (⟨(⟨0, 0, 0, 0, 0, 0, 0, 0, 0, 0, 0, 0, 0, 0, 0, 0⟩ : V6), 0⟩ : T6), (⟨(⟨0, 0, 0, 0⟩ : V4), 0⟩ : T4), false, 0⟩ : Binding)), (Vi 1)] ⟨⟨_, g125, (rd_agg (vs := zBc) ag36 (On.now hb122) (by kernel_rfl) rfl)⟩, g126, trivial⟩ ?_)
        have hf127 := (BibIs.kp (BibIs.k0 hf106 hk108) hk123 (fun b hb => (fun e => (fun hb => Nat.lt_irrefl _ (nt (BibIs.lt h _ hb) (nl (nl hk8.size hk12.size) (Nat.le_refl _)))) (e ▸ hb))) (Nat.ne_of_lt (nt (nt (hT0.lt) (nl hk8.size hk12.size)) (Nat.le_refl _))))
        have hbe : bindE g st 0 1 t u = 1 := by grind [bindE, owns]
        have hbn : bindE g st 0 1 t u ≠ 0 := by rw [hbe]; first | decide | assumption
        exact ⟨.inl ⟨hbn, by rw [hbe]; rfl, hf127⟩, ka124⟩
      · refine skip (hK50 _ _ (genC [(0, (Vp g.tb 0)), (1, (Vi 1)), (6, (Vp w.heap.size 0)), (7, (Vp w6.heap.size 0)), (8, (Vp w10.heap.size 0)), (10, (Vi 0))] ⟨g111, g112, g113, g114, g115, g116, trivial⟩ ?_))
        clear hK50; rintro E ⟨g128, g129, g130, g131, g132, g133, -⟩
        refine seq fun K134 hK134 => ?_
        refine seq fun K135 hK135 => ?_
        refine regD (fun _ => False) (.take 0 (.take 1 (.take 2 (.take 3 (.take 4 (.take 5 (.take 6 (.one 7 (.take 8 (.take 9 (.take 10 (.take 11 (.take 12 .done))))))))))))) mixed (by kernel_rfl) fun w136 hh137 hk138 => ?_
        have ka139 := (Kp.then0 ka109 hk138)
        refine o_y rfl (y_move (v := (Vp g.tb 0)) g128) ?_
        refine o_y rfl (y_move (v := (Vi 0)) g133) ?_
        refine o_y rfl (y_nil rfl) ?_
        refine o_y rfl (y_fld fo95_6 rfl) ?_
        refine o_y rfl (y_idxA ao93 sz92 rfl (i := 0) rfl (by omega)) ?_
        refine o_y rfl (y_load (v := (Vp ((g.p 0).pb) 0)) rfl (rd_sc sc92 (On.kp (hk138.get0 (hk108.get0 (hk86.get0 (hk65.get0 (hk62.get0 (hk42.get0 (hk27.get0 (hk16.get0 (hk12.get0 (hk8.get0 hb0)))))))))) id) rfl)) ?_
        refine o_y rfl (y_load (v := (t4 u)) g131 (rd_agg (vs := u.cs) ag34 (On.kp (hk138.get0 (hk108.get0 (hk86.get0 (hk65.get0 (hk62.get0 (hk42.get0 (hk27.get0 (hk16.get0 hb11)))))))) id) (by kernel_rfl) rfl)) ?_
        refine o_one ?_
        have hf140 := (BibIs.k0 (BibIs.k0 hf106 hk108) hk138)
        refine c_e rfl (e_call ca55 (args := [(Vp ((g.p 0).pb) 0), (t4 u)]) rfl (is_spec (BibIs.pool hf140 0 (by omega)) (ok.pool 0 (by omega)) u hu)) ?_
        rintro _ w141 ⟨rfl, hk142⟩
        have ka143 := (Kp.then0 ka139 hk142)
        have ks144 : Kp (fun _ => False) w136 w141 := (Kp.then0 (Kp.refl _ _) hk142)
        refine ⟨ks144, ?_⟩
        refine o_y rfl (y_move (v := (.tuple #[(.bool (decide (owns (g.p 0).l u ∧ aget (st.h 0) u = some false))), (.bool (decide (owns (g.p 0).l u ∧ aget (st.h 0) u = some true)))])) rfl) ?_
        refine o_y rfl (y_ext rfl (v := (.bool (decide (owns (g.p 0).l u ∧ aget (st.h 0) u = some false)))) rfl) ?_
        refine o_y rfl (y_ext rfl (v := (.bool (decide (owns (g.p 0).l u ∧ aget (st.h 0) u = some true)))) rfl) ?_
        refine o_y rfl (y_assign (v := (.bool (decide (owns (g.p 0).l u ∧ aget (st.h 0) u = some false)))) rfl) ?_
        refine o_y rfl (y_assign (v := (.bool (decide (owns (g.p 0).l u ∧ aget (st.h 0) u = some true)))) rfl) ?_
        refine o_done (hK135 _ _ (genC [(0, (Vp g.tb 0)), (1, (Vi 1)), (6, (Vp w.heap.size 0)), (7, (Vp w6.heap.size 0)), (8, (Vp w10.heap.size 0)), (10, (Vi 0)), (11, (.bool (decide (owns (g.p 0).l u ∧ aget (st.h 0) u = some false)))), (12, (.bool (decide (owns (g.p 0).l u ∧ aget (st.h 0) u = some true))))] ⟨g128, g129, g130, g131, g132, g133, rfl, rfl, trivial⟩ ?_))
        clear hK135; rintro E ⟨g145, g146, g147, g148, g149, g150, g151, g152, -⟩
        refine seq fun K153 hK153 => ?_
        refine reg ?_
        refine s_y (y_move (v := (.bool (decide (owns (g.p 0).l u ∧ aget (st.h 0) u = some false)))) g151) rfl ?_
        refine s_y (y_move (v := (.bool (decide (owns (g.p 0).l u ∧ aget (st.h 0) u = some false)))) rfl) rfl ?_
        by_cases c154 : owns (g.p 0).l u ∧ aget (st.h 0) u = some false
        · refine s_no (.no rfl (c := true) (congrArg Value.bool (decide_eq_true c154)) rfl) rfl ?_
          refine s_y (y_pick_t (congrArg Value.bool (decide_eq_true c154)) (v := Vt) rfl) rfl ?_
          refine s_nil (hK153 _ _ (genC [(0, (Vp g.tb 0)), (1, (Vi 1)), (6, (Vp w.heap.size 0)), (7, (Vp w6.heap.size 0)), (8, (Vp w10.heap.size 0)), (10, (Vi 0)), (62, Vt)] ⟨g145, g146, g147, g148, g149, g150, rfl, trivial⟩ ?_))
          clear hK153; rintro E ⟨g155, g156, g157, g158, g159, g160, g161, -⟩
          refine cond_t g161 ?_
          refine seq fun K162 hK162 => ?_
          refine reg ?_
          refine s_y (y_build (vs := []) (v := (.agg zBc.toArray)) rfl (fun _ => by kernel_rfl)) rfl ?_
          have hb163 := (hk142.get0 (hk138.get0 (hk108.get0 (hk86.get0 (hk65.get0 (hk62.get0 (hk42.get0 (hk27.get0 hb15))))))))
          refine s_e0 (e_storeV (cs' := zBc.toArray) zBc g159 (v := (.agg zBc.toArray)) rfl rfl sz36 hb163 rfl rfl rfl) ?_
          rintro _ w164 ⟨hb165, hk166⟩
          have ka167 := (Kp.fresh ka143 hk166 fun _ e => nl (nl (nl hk8.size hk12.size) (Nat.le_refl _)) (Nat.le_of_eq e.symm))
          refine s_y (y_assign (v := (Vi 5)) rfl) rfl ?_
          refine s_nil (hK162 _ _ (genC [(8, (Vp w10.heap.size 0)), (9, (Vi 5))] ⟨g159, rfl, trivial⟩ ?_))
          clear hK162; rintro E ⟨g168, g169, -⟩
          refine ret (hret _ _ [(bv (⟨0, 0, (⟨(⟨0, 0, 0, 0, 0, 0, 0, 0, 0, 0, 0, 0, 0, 0, 0, 0⟩ : V6), 0⟩ : T6), (⟨(⟨0, 0, 0, 0⟩ : V4), 0⟩ : T4), false, 0⟩ : Binding)), (Vi 5)] ⟨⟨_, g168, (rd_agg (vs := zBc) ag36 (On.now hb165) (by kernel_rfl) rfl)⟩, g169, trivial⟩ ?_)
          have hf170 := (BibIs.kp (BibIs.k0 hf140 hk142) hk166 (fun b hb => (fun e => (fun hb => Nat.lt_irrefl _ (nt (BibIs.lt h _ hb) (nl (nl hk8.size hk12.size) (Nat.le_refl _)))) (e ▸ hb))) (Nat.ne_of_lt (nt (nt (hT0.lt) (nl hk8.size hk12.size)) (Nat.le_refl _))))
          have hbe : bindE g st 0 1 t u = 5 := by grind [bindE, owns]
          have hbn : bindE g st 0 1 t u ≠ 0 := by rw [hbe]; first | decide | assumption
          exact ⟨.inl ⟨hbn, by rw [hbe]; rfl, hf170⟩, ka167⟩
        · refine s_gy (.yes rfl (congrArg Value.bool (decide_eq_false c154))) (y_move (v := (.bool (decide (owns (g.p 0).l u ∧ aget (st.h 0) u = some true)))) g152) rfl ?_
          refine s_y (y_pick_f (congrArg Value.bool (decide_eq_false c154)) (v := (.bool (decide (owns (g.p 0).l u ∧ aget (st.h 0) u = some true)))) rfl) rfl ?_
          refine s_nil (hK153 _ _ (genC [(0, (Vp g.tb 0)), (1, (Vi 1)), (6, (Vp w.heap.size 0)), (7, (Vp w6.heap.size 0)), (8, (Vp w10.heap.size 0)), (10, (Vi 0)), (62, (.bool (decide (owns (g.p 0).l u ∧ aget (st.h 0) u = some true))))] ⟨g145, g146, g147, g148, g149, g150, rfl, trivial⟩ ?_))
          clear hK153; rintro E ⟨g171, g172, g173, g174, g175, g176, g177, -⟩
          refine cond_d g177 (fun c178 => ?_) (fun c178 => ?_)
          · refine seq fun K179 hK179 => ?_
            refine reg ?_
            refine s_y (y_build (vs := []) (v := (.agg zBc.toArray)) rfl (fun _ => by kernel_rfl)) rfl ?_
            have hb180 := (hk142.get0 (hk138.get0 (hk108.get0 (hk86.get0 (hk65.get0 (hk62.get0 (hk42.get0 (hk27.get0 hb15))))))))
            refine s_e0 (e_storeV (cs' := zBc.toArray) zBc g175 (v := (.agg zBc.toArray)) rfl rfl sz36 hb180 rfl rfl rfl) ?_
            rintro _ w181 ⟨hb182, hk183⟩
            have ka184 := (Kp.fresh ka143 hk183 fun _ e => nl (nl (nl hk8.size hk12.size) (Nat.le_refl _)) (Nat.le_of_eq e.symm))
            refine s_y (y_assign (v := (Vi 5)) rfl) rfl ?_
            refine s_nil (hK179 _ _ (genC [(8, (Vp w10.heap.size 0)), (9, (Vi 5))] ⟨g175, rfl, trivial⟩ ?_))
            clear hK179; rintro E ⟨g185, g186, -⟩
            refine ret (hret _ _ [(bv (⟨0, 0, (⟨(⟨0, 0, 0, 0, 0, 0, 0, 0, 0, 0, 0, 0, 0, 0, 0, 0⟩ : V6), 0⟩ : T6), (⟨(⟨0, 0, 0, 0⟩ : V4), 0⟩ : T4), false, 0⟩ : Binding)), (Vi 5)] ⟨⟨_, g185, (rd_agg (vs := zBc) ag36 (On.now hb182) (by kernel_rfl) rfl)⟩, g186, trivial⟩ ?_)
            have hf187 := (BibIs.kp (BibIs.k0 hf140 hk142) hk183 (fun b hb => (fun e => (fun hb => Nat.lt_irrefl _ (nt (BibIs.lt h _ hb) (nl (nl hk8.size hk12.size) (Nat.le_refl _)))) (e ▸ hb))) (Nat.ne_of_lt (nt (nt (hT0.lt) (nl hk8.size hk12.size)) (Nat.le_refl _))))
            have hbe : bindE g st 0 1 t u = 5 := by grind [bindE, owns]
            have hbn : bindE g st 0 1 t u ≠ 0 := by rw [hbe]; first | decide | assumption
            exact ⟨.inl ⟨hbn, by rw [hbe]; rfl, hf187⟩, ka184⟩
          · refine skip (hK134 _ _ (genC [(0, (Vp g.tb 0)), (1, (Vi 1)), (6, (Vp w.heap.size 0)), (7, (Vp w6.heap.size 0)), (8, (Vp w10.heap.size 0)), (10, (Vi 0))] ⟨g171, g172, g173, g174, g175, g176, trivial⟩ ?_))
            clear hK134; rintro E ⟨g188, g189, g190, g191, g192, g193, -⟩
            refine seq fun K194 hK194 => ?_
            refine seq fun K195 hK195 => ?_
            refine reg ?_
            refine s_y (y_move (v := (Vp g.tb 0)) g188) rfl ?_
            refine s_y (y_move (v := (Vi 1)) g189) rfl ?_
            have hb196 := (hk142.get0 (hk138.get0 (hk108.get0 (hk86.get0 (hk65.get0 (hk62.get0 (hk42.get0 (hk27.get0 (hk16.get0 (hk12.get0 hb7))))))))))
            refine s_y (y_load (v := (t6 t)) g190 (rd_agg (vs := t.cs) ag32 (On.now hb196) (by kernel_rfl) rfl)) rfl ?_
            have hf197 := (BibIs.k0 hf140 hk142)
            refine s_e (e_call ca46 (args := [(Vp g.tb 0), (Vi 1), (t6 t)]) rfl (mayb_spec ok hf197 1 t (by omega) (by omega))) rfl ?_
            rintro _ w198 ⟨rfl, hk199⟩
            have ka200 := (Kp.then0 ka143 hk199)
            refine s_y (y_assign (v := (Vi ((mayE g st 1 t)))) rfl) rfl ?_
            refine s_nil (hK195 _ _ (genC [(0, (Vp g.tb 0)), (1, (Vi 1)), (6, (Vp w.heap.size 0)), (7, (Vp w6.heap.size 0)), (8, (Vp w10.heap.size 0)), (10, (Vi 0)), (13, (Vi ((mayE g st 1 t))))] ⟨g188, g189, g190, g191, g192, g193, rfl, trivial⟩ ?_))
            clear hK195; rintro E ⟨g201, g202, g203, g204, g205, g206, g207, -⟩
            refine seq fun K208 hK208 => ?_
            refine reg ?_
            refine s_y (y_move (v := (Vi ((mayE g st 1 t)))) g207) rfl ?_
            refine s_y (y_neq rfl rfl) rfl ?_
            refine s_nil (hK208 _ _ (genC [(0, (Vp g.tb 0)), (1, (Vi 1)), (6, (Vp w.heap.size 0)), (7, (Vp w6.heap.size 0)), (8, (Vp w10.heap.size 0)), (10, (Vi 0)), (13, (Vi ((mayE g st 1 t)))), (69, (.bool (decide (((mayE g st 1 t) : Int) ≠ 0))))] ⟨g201, g202, g203, g204, g205, g206, g207, rfl, trivial⟩ ?_))
            clear hK208; rintro E ⟨g209, g210, g211, g212, g213, g214, g215, g216, -⟩
            refine cond_d g216 (fun c217 => ?_) (fun c217 => ?_)
            · refine seq fun K218 hK218 => ?_
              refine reg ?_
              refine s_y (y_build (vs := []) (v := (.agg zBc.toArray)) rfl (fun _ => by kernel_rfl)) rfl ?_
              refine s_y (y_move (v := (Vi ((mayE g st 1 t)))) g215) rfl ?_
              have hb219 := (hk199.get0 (hk142.get0 (hk138.get0 (hk108.get0 (hk86.get0 (hk65.get0 (hk62.get0 (hk42.get0 (hk27.get0 hb15)))))))))
              refine s_e0 (e_storeV (cs' := zBc.toArray) zBc g213 (v := (.agg zBc.toArray)) rfl rfl sz36 hb219 rfl rfl rfl) ?_
              rintro _ w220 ⟨hb221, hk222⟩
              have ka223 := (Kp.fresh ka200 hk222 fun _ e => nl (nl (nl hk8.size hk12.size) (Nat.le_refl _)) (Nat.le_of_eq e.symm))
              refine s_y (y_assign (v := (Vi ((mayE g st 1 t)))) rfl) rfl ?_
              refine s_nil (hK218 _ _ (genC [(8, (Vp w10.heap.size 0)), (9, (Vi ((mayE g st 1 t))))] ⟨g213, rfl, trivial⟩ ?_))
              clear hK218; rintro E ⟨g224, g225, -⟩
              refine ret (hret _ _ [(bv (⟨0, 0, (⟨(⟨0, 0, 0, 0, 0, 0, 0, 0, 0, 0, 0, 0, 0, 0, 0, 0⟩ : V6), 0⟩ : T6), (⟨(⟨0, 0, 0, 0⟩ : V4), 0⟩ : T4), false, 0⟩ : Binding)), (Vi ((mayE g st 1 t)))] ⟨⟨_, g224, (rd_agg (vs := zBc) ag36 (On.now hb221) (by kernel_rfl) rfl)⟩, g225, trivial⟩ ?_)
              have hf226 := (BibIs.kp (BibIs.k0 hf197 hk199) hk222 (fun b hb => (fun e => (fun hb => Nat.lt_irrefl _ (nt (BibIs.lt h _ hb) (nl (nl hk8.size hk12.size) (Nat.le_refl _)))) (e ▸ hb))) (Nat.ne_of_lt (nt (nt (hT0.lt) (nl hk8.size hk12.size)) (Nat.le_refl _))))
              have hbe : bindE g st 0 1 t u = (mayE g st 1 t) := bindE_may (by assumption) (by assumption) (by assumption) (by assumption) (by assumption)
              have hbn : bindE g st 0 1 t u ≠ 0 := by rw [hbe]; first | decide | assumption
              exact ⟨.inl ⟨hbn, by rw [hbe]; rfl, hf226⟩, ka223⟩
            · refine skip (hK194 _ _ (genC [(0, (Vp g.tb 0)), (1, (Vi 1)), (6, (Vp w.heap.size 0)), (7, (Vp w6.heap.size 0)), (8, (Vp w10.heap.size 0)), (10, (Vi 0))] ⟨g209, g210, g211, g212, g213, g214, trivial⟩ ?_))
              clear hK194; rintro E ⟨g227, g228, g229, g230, g231, g232, -⟩
              refine seq fun K233 hK233 => ?_
              refine seq fun K234 hK234 => ?_
              refine regD (· = (g.p 0).mb) (.take 0 (.take 1 (.take 2 (.take 3 (.take 4 (.take 5 (.take 6 (.one 7 (.take 8 .done))))))))) mixed (by kernel_rfl) fun w235 hh236 hk237 => ?_
              have ka238 := (Kp.then0 ka200 hk237)
              refine o_y rfl (y_move (v := (Vp g.tb 0)) g227) ?_
              refine o_y rfl (y_move (v := (Vi 0)) g232) ?_
              refine o_y rfl (y_nil rfl) ?_
              refine o_y rfl (y_fld fo95_6 rfl) ?_
              refine o_y rfl (y_idxA ao93 sz92 rfl (i := 0) rfl (by omega)) ?_
              refine o_y rfl (y_load (v := (Vp ((g.p 0).pb) 0)) rfl (rd_sc sc92 (On.kp (hk237.get0 (hk199.get0 (hk142.get0 (hk138.get0 (hk108.get0 (hk86.get0 (hk65.get0 (hk62.get0 (hk42.get0 (hk27.get0 (hk16.get0 (hk12.get0 (hk8.get0 hb0))))))))))))) (blocks_ne h.nd (i := 0) (j := 8) (by decide) rfl rfl)) rfl)) ?_
              refine o_y rfl (y_load (v := (t4 u)) g230 (rd_agg (vs := u.cs) ag34 (On.kp (hk237.get0 (hk199.get0 (hk142.get0 (hk138.get0 (hk108.get0 (hk86.get0 (hk65.get0 (hk62.get0 (hk42.get0 (hk27.get0 (hk16.get0 hb11))))))))))) (Nat.ne_of_gt (nt (nt ((BibIs.lt h _ (mem_blocks (List.mem_of_getElem? (i := 8) (rfl : g.blocks[8]? = some (g.p 0).mb))))) hk8.size) (Nat.le_refl _)))) (by kernel_rfl) rfl)) ?_
              refine o_one ?_
              have hf239 := (BibIs.k0 (BibIs.k0 hf197 hk199) hk237)
              have hfr9 := free_of (l := (g.p 0).l) (held := st.h 0) (u := u) (by assumption) (by assumption) (by assumption) (by assumption); have hag9 := hfr9.2; have hres9 := pRes_of hfr9
              refine c_e rfl (e_call ca56 (args := [(Vp ((g.p 0).pb) 0), (t4 u)]) rfl (show Rets _ _ _ _ (fun v w1 => v = .int .i64 0 ∧ PoolIs (g.p 0) (st.h 0 ++ [(u, true)]) w1 ∧ Kp (· = (g.p 0).mb) w235 w1) from by have h9 := reserve_spec (BibIs.pool hf239 0 (by omega)) (ok.pool 0 (by omega)) u hu; rw [hres9] at h9; exact h9)) ?_
              rintro _ w240 ⟨rfl, hp242, hk241⟩
              have hB9 := BibIs.pool_put hf239 (k := 0) (by omega) hp242 hk241
              have ka243 := (Kp.trans ka238 hk241 (fun _ _ e => (fun e => (.inr (.inr (.inr (.inr (.inr (.inr e))))))) e))
              have ks244 : Kp (· = (g.p 0).mb) w235 w240 := (Kp.trans (Kp.refl _ _) hk241 (fun _ _ e => e))
              obtain ⟨hm1, hm2, hm3, hm4⟩ := mayE_zero (Decidable.not_not.1 c217)
              refine ⟨ks244, ?_⟩
              refine o_y rfl (y_assign (v := (Vi 0)) rfl) ?_
              refine o_done (hK234 _ _ (genC [(0, (Vp g.tb 0)), (1, (Vi 1)), (6, (Vp w.heap.size 0)), (7, (Vp w6.heap.size 0)), (8, (Vp w10.heap.size 0)), (14, (Vi 0))] ⟨g227, g228, g229, g230, g231, rfl, trivial⟩ ?_))
              clear hK234; rintro E ⟨g245, g246, g247, g248, g249, g250, -⟩
              refine seq fun K251 hK251 => ?_
              refine reg ?_
              refine s_y (y_move (v := (Vi 0)) g250) rfl ?_
              refine s_y (y_neq rfl rfl) rfl ?_
              refine s_nil (hK251 _ _ (genC [(0, (Vp g.tb 0)), (1, (Vi 1)), (6, (Vp w.heap.size 0)), (7, (Vp w6.heap.size 0)), (8, (Vp w10.heap.size 0)), (14, (Vi 0)), (81, Vf)] ⟨g245, g246, g247, g248, g249, g250, rfl, trivial⟩ ?_))
              clear hK251; rintro E ⟨g252, g253, g254, g255, g256, g257, g258, -⟩
              refine cond_f g258 ?_
              refine skip (hK233 _ _ (genC [(0, (Vp g.tb 0)), (1, (Vi 1)), (6, (Vp w.heap.size 0)), (7, (Vp w6.heap.size 0)), (8, (Vp w10.heap.size 0))] ⟨g252, g253, g254, g255, g256, trivial⟩ ?_))
              clear hK233; rintro E ⟨g259, g260, g261, g262, g263, -⟩
              refine seq fun K264 hK264 => ?_
              refine reg ?_
              refine s_y (y_move (v := (Vp g.tb 0)) g259) rfl ?_
              refine s_y (y_move (v := (Vi 1)) g260) rfl ?_
              have hb265 := (hk241.get (hk237.get0 (hk199.get0 hb196)) (Nat.ne_of_gt (nt ((BibIs.lt h _ (mem_blocks (List.mem_of_getElem? (i := 8) (rfl : g.blocks[8]? = some (g.p 0).mb))))) (Nat.le_refl _))))
              refine s_y (y_load (v := (t6 t)) g261 (rd_agg (vs := t.cs) ag32 (On.now hb265) (by kernel_rfl) rfl)) rfl ?_
              have hb266 := (hk241.get (hk237.get0 (hk199.get0 (hk142.get0 (hk138.get0 (hk108.get0 (hk86.get0 (hk65.get0 (hk62.get0 (hk42.get0 (hk27.get0 (hk16.get0 hb11))))))))))) (Nat.ne_of_gt (nt (nt ((BibIs.lt h _ (mem_blocks (List.mem_of_getElem? (i := 8) (rfl : g.blocks[8]? = some (g.p 0).mb))))) hk8.size) (Nat.le_refl _))))
              refine s_y (y_load (v := (t4 u)) g262 (rd_agg (vs := u.cs) ag34 (On.now hb266) (by kernel_rfl) rfl)) rfl ?_
              refine s_y (y_build (vs := [(1, (Vi 1)), (2, (t6 t)), (3, (t4 u)), (4, Vt)]) (v := (.agg #[.int .i64 0, .int .i64 1, u8 t.addr.b0, u8 t.addr.b1, u8 t.addr.b2, u8 t.addr.b3, u8 t.addr.b4, u8 t.addr.b5, u8 t.addr.b6, u8 t.addr.b7, u8 t.addr.b8, u8 t.addr.b9, u8 t.addr.b10, u8 t.addr.b11, u8 t.addr.b12, u8 t.addr.b13, u8 t.addr.b14, u8 t.addr.b15, .int .i64 (t.port), u8 u.addr.a, u8 u.addr.b, u8 u.addr.c, u8 u.addr.d, .int .i64 (u.port), .bool true, .int .i64 0])) rfl (fun _ => by kernel_rfl)) rfl ?_
              refine s_e (e_call ca48 (args := [(Vp g.tb 0), (.agg #[.int .i64 0, .int .i64 1, u8 t.addr.b0, u8 t.addr.b1, u8 t.addr.b2, u8 t.addr.b3, u8 t.addr.b4, u8 t.addr.b5, u8 t.addr.b6, u8 t.addr.b7, u8 t.addr.b8, u8 t.addr.b9, u8 t.addr.b10, u8 t.addr.b11, u8 t.addr.b12, u8 t.addr.b13, u8 t.addr.b14, u8 t.addr.b15, .int .i64 (t.port), u8 u.addr.a, u8 u.addr.b, u8 u.addr.c, u8 u.addr.d, .int .i64 (u.port), .bool true, .int .i64 0])]) rfl (putb_spec ok hB9 (⟨0, 1, t, u, true, 0⟩ : Binding) (show -9223372036854775808 ≤ (1 : Int) ∧ (1 : Int) ≤ 9223372036854775807 from ⟨by decide, by decide⟩) ht hu hle hla hm4 hm3 (out_none hout hag9))) rfl ?_
              rintro _ w267 ⟨⟨x269, rfl, hx270, hP271⟩, hk268⟩
              have ka272 := (Kp.trans ka243 hk268 (fun _ _ e => (fun e => e.elim (fun e => (.inl e)) (fun e => e.elim (fun e => (.inr (.inl e))) (fun e => e.elim (fun e => (.inr (.inr (.inl e)))) (fun e => e.elim (fun e => (.inr (.inr (.inr (.inl e))))) (fun e => e.elim (fun e => (.inr (.inr (.inr (.inr (.inl e)))))) (fun e => (.inr (.inr (.inr (.inr (.inr (.inl e)))))))))))) e))
              have hb273 := BibIs.blk hP271; have hm274 := BibIs.map hP271; have hT275 := BibIs.tb hP271
              have hb276 := (hk268.get (hk241.get (hk237.get0 (hk199.get0 (hk142.get0 (hk138.get0 (hk108.get0 (hk86.get0 (hk65.get0 (hk62.get0 (hk42.get0 (hk27.get0 hb15)))))))))) (Nat.ne_of_gt (nt (nt ((BibIs.lt h _ (mem_blocks (List.mem_of_getElem? (i := 8) (rfl : g.blocks[8]? = some (g.p 0).mb))))) (nl hk8.size hk12.size)) (Nat.le_refl _)))) (not_or.2 ⟨(Nat.ne_of_gt (nt (nt (lt_of_get hb0) (nl hk8.size hk12.size)) (Nat.le_refl _))), (not_or.2 ⟨(Nat.ne_of_gt (nt (nt (hm0.lt) (nl hk8.size hk12.size)) (Nat.le_refl _))), (not_or.2 ⟨(Nat.ne_of_gt (nt (nt ((BibIs.lt h _ (mem_blocks (List.mem_of_getElem? (i := 2) (rfl : g.blocks[2]? = some g.i1.ib))))) (nl hk8.size hk12.size)) (Nat.le_refl _))), (not_or.2 ⟨(Nat.ne_of_gt (nt (nt ((BibIs.lt h _ (mem_blocks (List.mem_of_getElem? (i := 3) (rfl : g.blocks[3]? = some g.i1.sb))))) (nl hk8.size hk12.size)) (Nat.le_refl _))), (not_or.2 ⟨(Nat.ne_of_gt (nt (nt ((BibIs.lt h _ (mem_blocks (List.mem_of_getElem? (i := 4) (rfl : g.blocks[4]? = some g.i2.ib))))) (nl hk8.size hk12.size)) (Nat.le_refl _))), (Nat.ne_of_gt (nt (nt ((BibIs.lt h _ (mem_blocks (List.mem_of_getElem? (i := 5) (rfl : g.blocks[5]? = some g.i2.sb))))) (nl hk8.size hk12.size)) (Nat.le_refl _)))⟩)⟩)⟩)⟩)⟩))
              refine s_e0 (e_storeV (cs' := #[(Vi ((⟨st.last + 1, 1, t, u, true, 0⟩ : Binding).id)), (Vi ((⟨st.last + 1, 1, t, u, true, 0⟩ : Binding).proto)), (u8 (((⟨st.last + 1, 1, t, u, true, 0⟩ : Binding).inn).addr).b0), (u8 (((⟨st.last + 1, 1, t, u, true, 0⟩ : Binding).inn).addr).b1), (u8 (((⟨st.last + 1, 1, t, u, true, 0⟩ : Binding).inn).addr).b2), (u8 (((⟨st.last + 1, 1, t, u, true, 0⟩ : Binding).inn).addr).b3), (u8 (((⟨st.last + 1, 1, t, u, true, 0⟩ : Binding).inn).addr).b4), (u8 (((⟨st.last + 1, 1, t, u, true, 0⟩ : Binding).inn).addr).b5), (u8 (((⟨st.last + 1, 1, t, u, true, 0⟩ : Binding).inn).addr).b6), (u8 (((⟨st.last + 1, 1, t, u, true, 0⟩ : Binding).inn).addr).b7), (u8 (((⟨st.last + 1, 1, t, u, true, 0⟩ : Binding).inn).addr).b8), (u8 (((⟨st.last + 1, 1, t, u, true, 0⟩ : Binding).inn).addr).b9), (u8 (((⟨st.last + 1, 1, t, u, true, 0⟩ : Binding).inn).addr).b10), (u8 (((⟨st.last + 1, 1, t, u, true, 0⟩ : Binding).inn).addr).b11), (u8 (((⟨st.last + 1, 1, t, u, true, 0⟩ : Binding).inn).addr).b12), (u8 (((⟨st.last + 1, 1, t, u, true, 0⟩ : Binding).inn).addr).b13), (u8 (((⟨st.last + 1, 1, t, u, true, 0⟩ : Binding).inn).addr).b14), (u8 (((⟨st.last + 1, 1, t, u, true, 0⟩ : Binding).inn).addr).b15), (Vi (((⟨st.last + 1, 1, t, u, true, 0⟩ : Binding).inn).port)), (u8 (((⟨st.last + 1, 1, t, u, true, 0⟩ : Binding).out).addr).a), (u8 (((⟨st.last + 1, 1, t, u, true, 0⟩ : Binding).out).addr).b), (u8 (((⟨st.last + 1, 1, t, u, true, 0⟩ : Binding).out).addr).c), (u8 (((⟨st.last + 1, 1, t, u, true, 0⟩ : Binding).out).addr).d), (Vi (((⟨st.last + 1, 1, t, u, true, 0⟩ : Binding).out).port)), (.bool ((⟨st.last + 1, 1, t, u, true, 0⟩ : Binding).static)), (Vi ((⟨st.last + 1, 1, t, u, true, 0⟩ : Binding).sessions))]) [(Vi ((⟨st.last + 1, 1, t, u, true, 0⟩ : Binding).id)), (Vi ((⟨st.last + 1, 1, t, u, true, 0⟩ : Binding).proto)), (u8 (((⟨st.last + 1, 1, t, u, true, 0⟩ : Binding).inn).addr).b0), (u8 (((⟨st.last + 1, 1, t, u, true, 0⟩ : Binding).inn).addr).b1), (u8 (((⟨st.last + 1, 1, t, u, true, 0⟩ : Binding).inn).addr).b2), (u8 (((⟨st.last + 1, 1, t, u, true, 0⟩ : Binding).inn).addr).b3), (u8 (((⟨st.last + 1, 1, t, u, true, 0⟩ : Binding).inn).addr).b4), (u8 (((⟨st.last + 1, 1, t, u, true, 0⟩ : Binding).inn).addr).b5), (u8 (((⟨st.last + 1, 1, t, u, true, 0⟩ : Binding).inn).addr).b6), (u8 (((⟨st.last + 1, 1, t, u, true, 0⟩ : Binding).inn).addr).b7), (u8 (((⟨st.last + 1, 1, t, u, true, 0⟩ : Binding).inn).addr).b8), (u8 (((⟨st.last + 1, 1, t, u, true, 0⟩ : Binding).inn).addr).b9), (u8 (((⟨st.last + 1, 1, t, u, true, 0⟩ : Binding).inn).addr).b10), (u8 (((⟨st.last + 1, 1, t, u, true, 0⟩ : Binding).inn).addr).b11), (u8 (((⟨st.last + 1, 1, t, u, true, 0⟩ : Binding).inn).addr).b12), (u8 (((⟨st.last + 1, 1, t, u, true, 0⟩ : Binding).inn).addr).b13), (u8 (((⟨st.last + 1, 1, t, u, true, 0⟩ : Binding).inn).addr).b14), (u8 (((⟨st.last + 1, 1, t, u, true, 0⟩ : Binding).inn).addr).b15), (Vi (((⟨st.last + 1, 1, t, u, true, 0⟩ : Binding).inn).port)), (u8 (((⟨st.last + 1, 1, t, u, true, 0⟩ : Binding).out).addr).a), (u8 (((⟨st.last + 1, 1, t, u, true, 0⟩ : Binding).out).addr).b), (u8 (((⟨st.last + 1, 1, t, u, true, 0⟩ : Binding).out).addr).c), (u8 (((⟨st.last + 1, 1, t, u, true, 0⟩ : Binding).out).addr).d), (Vi (((⟨st.last + 1, 1, t, u, true, 0⟩ : Binding).out).port)), (.bool ((⟨st.last + 1, 1, t, u, true, 0⟩ : Binding).static)), (Vi ((⟨st.last + 1, 1, t, u, true, 0⟩ : Binding).sessions))] g263 (v := (bv (⟨st.last + 1, 1, t, u, true, 0⟩ : Binding))) rfl rfl sz36 hb276 rfl rfl rfl) ?_
              rintro _ w277 ⟨hb278, hk279⟩
              have ka280 := (Kp.fresh ka272 hk279 fun _ e => nl (nl (nl hk8.size hk12.size) (Nat.le_refl _)) (Nat.le_of_eq e.symm))
              refine s_y (y_assign (v := (Vi 0)) rfl) rfl ?_
              refine s_nil (hK264 _ _ (genC [(8, (Vp w10.heap.size 0)), (9, (Vi 0))] ⟨g263, rfl, trivial⟩ ?_))
              clear hK264; rintro E ⟨g281, g282, -⟩
              refine ret (hret _ _ [(bv (⟨(⟨st.last + 1, 1, t, u, true, 0⟩ : Binding).id, (⟨st.last + 1, 1, t, u, true, 0⟩ : Binding).proto, (⟨(((⟨st.last + 1, 1, t, u, true, 0⟩ : Binding).inn).addr), ((⟨st.last + 1, 1, t, u, true, 0⟩ : Binding).inn).port⟩ : T6), (⟨(((⟨st.last + 1, 1, t, u, true, 0⟩ : Binding).out).addr), ((⟨st.last + 1, 1, t, u, true, 0⟩ : Binding).out).port⟩ : T4), (⟨st.last + 1, 1, t, u, true, 0⟩ : Binding).static, (⟨st.last + 1, 1, t, u, true, 0⟩ : Binding).sessions⟩ : Binding)), (Vi 0)] ⟨⟨_, g281, (rd_agg (vs := [(Vi ((⟨st.last + 1, 1, t, u, true, 0⟩ : Binding).id)), (Vi ((⟨st.last + 1, 1, t, u, true, 0⟩ : Binding).proto)), (u8 (((⟨st.last + 1, 1, t, u, true, 0⟩ : Binding).inn).addr).b0), (u8 (((⟨st.last + 1, 1, t, u, true, 0⟩ : Binding).inn).addr).b1), (u8 (((⟨st.last + 1, 1, t, u, true, 0⟩ : Binding).inn).addr).b2), (u8 (((⟨st.last + 1, 1, t, u, true, 0⟩ : Binding).inn).addr).b3), (u8 (((⟨st.last + 1, 1, t, u, true, 0⟩ : Binding).inn).addr).b4), (u8 (((⟨st.last + 1, 1, t, u, true, 0⟩ : Binding).inn).addr).b5), (u8 (((⟨st.last + 1, 1, t, u, true, 0⟩ : Binding).inn).addr).b6), (u8 (((⟨st.last + 1, 1, t, u, true, 0⟩ : Binding).inn).addr).b7), (u8 (((⟨st.last + 1, 1, t, u, true, 0⟩ : Binding).inn).addr).b8), (u8 (((⟨st.last + 1, 1, t, u, true, 0⟩ : Binding).inn).addr).b9), (u8 (((⟨st.last + 1, 1, t, u, true, 0⟩ : Binding).inn).addr).b10), (u8 (((⟨st.last + 1, 1, t, u, true, 0⟩ : Binding).inn).addr).b11), (u8 (((⟨st.last + 1, 1, t, u, true, 0⟩ : Binding).inn).addr).b12), (u8 (((⟨st.last + 1, 1, t, u, true, 0⟩ : Binding).inn).addr).b13), (u8 (((⟨st.last + 1, 1, t, u, true, 0⟩ : Binding).inn).addr).b14), (u8 (((⟨st.last + 1, 1, t, u, true, 0⟩ : Binding).inn).addr).b15), (Vi (((⟨st.last + 1, 1, t, u, true, 0⟩ : Binding).inn).port)), (u8 (((⟨st.last + 1, 1, t, u, true, 0⟩ : Binding).out).addr).a), (u8 (((⟨st.last + 1, 1, t, u, true, 0⟩ : Binding).out).addr).b), (u8 (((⟨st.last + 1, 1, t, u, true, 0⟩ : Binding).out).addr).c), (u8 (((⟨st.last + 1, 1, t, u, true, 0⟩ : Binding).out).addr).d), (Vi (((⟨st.last + 1, 1, t, u, true, 0⟩ : Binding).out).port)), (.bool ((⟨st.last + 1, 1, t, u, true, 0⟩ : Binding).static)), (Vi ((⟨st.last + 1, 1, t, u, true, 0⟩ : Binding).sessions))]) ag36 (On.now hb278) (by kernel_rfl) rfl)⟩, g282, trivial⟩ ?_)
              have hz283 := (nl (nl (nl (nl (nl (nl (nl (nl (nl (nl hk27.size hk42.size) hk62.size) hk65.size) hk86.size) hk108.size) hk138.size) hk142.size) hk199.size) hk237.size) hk241.size)
              have hf284 := (BibIs.kp hP271 hk279 (fun b hb => (fun e => (fun hb => (bfp_add hb).elim (fun hb => Nat.lt_irrefl _ (nt (BibIs.lt h _ hb) (nl (nl hk8.size hk12.size) (Nat.le_refl _)))) (fun e => Nat.ne_of_lt (nt (nt (lt_of_get hb15) hz283) hx270) e)) (e ▸ hb))) (Nat.ne_of_lt (nt (nt (hT0.lt) (nl hk8.size hk12.size)) (Nat.le_refl _))))
              have hbe : bindE g st 0 1 t u = 0 := (bindE_may (by assumption) (by assumption) (by assumption) (by assumption) (by assumption)).trans (Decidable.not_not.1 (by assumption))
              have hz285 := (nl (nl (nl (nl (nl (nl (nl (nl (nl (nl (nl (nl (nl hk8.size hk12.size) hk16.size) hk27.size) hk42.size) hk62.size) hk65.size) hk86.size) hk108.size) hk138.size) hk142.size) hk199.size) hk237.size) hk241.size)
              exact ⟨.inr ⟨hbe, _, rfl, nl hz285 hx270, hf284⟩, ka280⟩

theorem bind_1 {g : BibG} {st : BibS} {w : World} (ok : BibOk g) (h : BibIs g st w) (t : T6) (u : T4) (ht : -9223372036854775808 ≤ t.port ∧ t.port ≤ 9223372036854775807) (hu : -9223372036854775808 ≤ u.port ∧ u.port ≤ 9223372036854775807) (hle : ∀ q ∈ st.l, q.1.id ≤ st.last) (hla : 0 ≤ st.last ∧ st.last ≤ 4611686018427387904) (hout : ∀ q ∈ st.l, q.1.proto = 6 → aget (st.h 1) q.1.out ≠ none) : Rets Tryd.prog 19 #[(.pointer (some ⟨g.tb, 0, none⟩)), (.int .i64 6), (t6 t), (t4 u)] w fun v w' => ((bindE g st 1 6 t u ≠ 0 ∧ v = .tuple #[bv zeroB, .int .i64 (bindE g st 1 6 t u)] ∧ BibIs g st w') ∨ (bindE g st 1 6 t u = 0 ∧ ∃ x, v = .tuple #[bv ⟨st.last + 1, 6, t, u, true, 0⟩, .int .i64 0] ∧ w.heap.size ≤ x ∧ BibIs g ⟨st.last + 1, st.l ++ [(⟨st.last + 1, 6, t, u, true, 0⟩, x)], setH st.h 1 (st.h 1 ++ [(u, true)])⟩ w')) ∧ Kp (fun k => k = g.tb ∨ k = g.mb ∨ k = g.i1.ib ∨ k = g.i1.sb ∨ k = g.i2.ib ∨ k = g.i2.sb ∨ k = (g.p 1).mb) w w' := by
  refine enter Tryd.func19 rfl Tryd.ntmps19 rfl fun Q hret hend E hE => ?_
  have g1 : E 0 = (Vp g.tb 0) := hE 0
  have g2 : E 1 = (Vi 6) := hE 1
  have g3 : E 2 = (t6 t) := hE 2
  have g4 : E 3 = (t4 u) := hE 3
  clear hE
  have hb0 := h.blk; have hm0 := h.map; have hT0 := h.tb; have hn1 : g.tb ≠ g.mb := blk_ne_map h.blk h.map
  refine seq fun K5 hK5 => ?_
  refine reg ?_
  refine s_e (e_box (v := (t6 t)) g3) rfl ?_
  rintro _ w6 ⟨rfl, hb7, hk8⟩
  have ka9 : Kp (fun k => k = g.tb ∨ k = g.mb ∨ k = g.i1.ib ∨ k = g.i1.sb ∨ k = g.i2.ib ∨ k = g.i2.sb ∨ k = (g.p 1).mb) w w6 := (Kp.then0 (Kp.refl _ _) hk8)
  refine s_e (e_box (v := (t4 u)) g4) rfl ?_
  rintro _ w10 ⟨rfl, hb11, hk12⟩
  have ka13 := (Kp.then0 ka9 hk12)
  refine s_e (e_alloc ze36) rfl ?_
  rintro _ w14 ⟨rfl, hb15, hk16⟩
  have ka17 := (Kp.then0 ka13 hk16)
  refine s_y (y_assign (v := (Vi 0)) rfl) rfl ?_
  refine s_nil (hK5 _ _ (genC [(0, (Vp g.tb 0)), (1, (Vi 6)), (6, (Vp w.heap.size 0)), (7, (Vp w6.heap.size 0)), (8, (Vp w10.heap.size 0))] ⟨g1, g2, rfl, rfl, rfl, trivial⟩ ?_))
  clear hK5; rintro E ⟨g18, g19, g20, g21, g22, -⟩
  refine seq fun K23 hK23 => ?_
  refine seq fun K24 hK24 => ?_
  refine reg ?_
  refine s_y (y_move (v := (Vp g.tb 0)) g18) rfl ?_
  have hf25 := (BibIs.k0 (BibIs.k0 (BibIs.k0 h hk8) hk12) hk16)
  refine s_e (e_call ca49 (args := [(Vp g.tb 0)]) rfl (bnone_spec hf25)) rfl ?_
  rintro _ w26 ⟨rfl, hk27⟩
  have ka28 := (Kp.then0 ka17 hk27)
  refine s_nil (hK24 _ _ (genC [(0, (Vp g.tb 0)), (1, (Vi 6)), (6, (Vp w.heap.size 0)), (7, (Vp w6.heap.size 0)), (8, (Vp w10.heap.size 0)), (16, Vf)] ⟨g18, g19, g20, g21, g22, rfl, trivial⟩ ?_))
  clear hK24; rintro E ⟨g29, g30, g31, g32, g33, g34, -⟩
  refine cond_f g34 ?_
  refine skip (hK23 _ _ (genC [(0, (Vp g.tb 0)), (1, (Vi 6)), (6, (Vp w.heap.size 0)), (7, (Vp w6.heap.size 0)), (8, (Vp w10.heap.size 0))] ⟨g29, g30, g31, g32, g33, trivial⟩ ?_))
  clear hK23; rintro E ⟨g35, g36, g37, g38, g39, -⟩
  refine seq fun K40 hK40 => ?_
  refine reg ?_
  refine s_y (y_move (v := (Vi 6)) g36) rfl ?_
  refine s_e (e_call ca51 (args := [(Vi 6)]) rfl (kind_spec 6 _)) rfl ?_
  rintro _ w41 ⟨rfl, hk42⟩
  have ka43 := (Kp.then0 ka28 hk42)
  refine s_y (y_assign (v := (Vi 1)) rfl) rfl ?_
  refine s_nil (hK40 _ _ (genC [(0, (Vp g.tb 0)), (1, (Vi 6)), (6, (Vp w.heap.size 0)), (7, (Vp w6.heap.size 0)), (8, (Vp w10.heap.size 0)), (10, (Vi 1))] ⟨g35, g36, g37, g38, g39, rfl, trivial⟩ ?_))
  clear hK40; rintro E ⟨g44, g45, g46, g47, g48, g49, -⟩
  refine seq fun K50 hK50 => ?_
  refine block ?_
  refine seq fun K51 hK51 => ?_
  refine reg ?_
  refine s_y (y_move (v := (Vi 1)) g49) rfl ?_
  refine s_y (y_lss rfl rfl) rfl ?_
  refine s_y (y_assign (v := Vf) rfl) rfl ?_
  refine s_nil (hK51 _ _ (genC [(0, (Vp g.tb 0)), (1, (Vi 6)), (6, (Vp w.heap.size 0)), (7, (Vp w6.heap.size 0)), (8, (Vp w10.heap.size 0)), (10, (Vi 1)), (20, Vf)] ⟨g44, g45, g46, g47, g48, g49, rfl, trivial⟩ ?_))
  clear hK51; rintro E ⟨g52, g53, g54, g55, g56, g57, g58, -⟩
  refine cond_f g58 ?_
  refine seq fun K59 hK59 => ?_
  refine regD (fun _ => False) (.take 0 (.take 1 (.one 2 (.take 3 (.take 4 (.take 5 (.take 6 (.one 7 (.take 8 (.take 9 (.take 10 (.take 11 (.take 12 (.take 13 (.take 14 (.take 15 (.take 16 (.take 17 (.take 18 (.one 19 (.take 20 (.take 21 (.take 22 .done))))))))))))))))))))))) mixed (by kernel_rfl) fun w60 hh61 hk62 => ?_
  have ka63 := (Kp.then0 ka43 hk62)
  refine o_y rfl (y_fld fo32_1 g54) ?_
  refine o_y rfl (y_load (v := (Vi (t.port))) rfl (rd_sc sc3 (On.kp (hk62.get0 (hk42.get0 (hk27.get0 (hk16.get0 (hk12.get0 hb7))))) id) rfl)) ?_
  refine o_one ?_
  refine c_e rfl (e_call ca53 (args := [(Vi (t.port))]) rfl (bport_spec t.port _)) ?_
  rintro _ w64 ⟨rfl, hk65⟩
  have ka66 := (Kp.then0 ka63 hk65)
  have ks67 : Kp (fun _ => False) w60 w64 := (Kp.then0 (Kp.refl _ _) hk65)
  refine ⟨ks67, ?_⟩
  refine o_y rfl (y_notd rfl) ?_
  refine o_y rfl (y_move (v := (.bool (decide (¬ (isPort t.port))))) rfl) ?_
  by_cases c68 : ¬ (isPort t.port)
  · refine o_no rfl (.no rfl (c := true) (congrArg Value.bool (decide_eq_true c68)) rfl) ?_
    refine o_no rfl (.no rfl (c := true) (congrArg Value.bool (decide_eq_true c68)) rfl) ?_
    refine o_one ?_
    refine c_no rfl (.no rfl (c := true) (congrArg Value.bool (decide_eq_true c68)) rfl) ks67 ?_
    refine o_no rfl (.no rfl (c := true) (congrArg Value.bool (decide_eq_true c68)) rfl) ?_
    refine o_y rfl (y_pick_t (congrArg Value.bool (decide_eq_true c68)) (v := Vt) rfl) ?_
    refine o_y rfl (y_move (v := Vt) rfl) ?_
    refine o_no rfl (.no rfl (c := true) rfl rfl) ?_
    refine o_no rfl (.no rfl (c := true) rfl rfl) ?_
    refine o_no rfl (.no rfl (c := true) rfl rfl) ?_
    refine o_no rfl (.no rfl (c := true) rfl rfl) ?_
    refine o_no rfl (.no rfl (c := true) rfl rfl) ?_
    refine o_no rfl (.no rfl (c := true) rfl rfl) ?_
    refine o_no rfl (.no rfl (c := true) rfl rfl) ?_
    refine o_no rfl (.no rfl (c := true) rfl rfl) ?_
    refine o_one ?_
    refine c_no rfl (.no rfl (c := true) rfl rfl) ks67 ?_
    refine o_no rfl (.no rfl (c := true) rfl rfl) ?_
    refine o_y rfl (y_pick_t rfl (v := Vt) rfl) ?_
    refine o_y rfl (y_assign (v := Vt) rfl) ?_
    refine o_done (hK59 _ _ (genC [(0, (Vp g.tb 0)), (1, (Vi 6)), (6, (Vp w.heap.size 0)), (7, (Vp w6.heap.size 0)), (8, (Vp w10.heap.size 0)), (10, (Vi 1)), (24, Vt)] ⟨g52, g53, g54, g55, g56, g57, rfl, trivial⟩ ?_))
    clear hK59; rintro E ⟨g69, g70, g71, g72, g73, g74, g75, -⟩
    refine cond_t g75 ?_
    refine seq fun K76 hK76 => ?_
    refine reg ?_
    refine s_y (y_build (vs := []) (v := (.agg zBc.toArray)) rfl (fun _ => by kernel_rfl)) rfl ?_
    have hb77 := (hk65.get0 (hk62.get0 (hk42.get0 (hk27.get0 hb15))))
    refine s_e0 (e_storeV (cs' := zBc.toArray) zBc g73 (v := (.agg zBc.toArray)) rfl rfl sz36 hb77 rfl rfl rfl) ?_
    rintro _ w78 ⟨hb79, hk80⟩
    have ka81 := (Kp.fresh ka66 hk80 fun _ e => nl (nl (nl hk8.size hk12.size) (Nat.le_refl _)) (Nat.le_of_eq e.symm))
    refine s_y (y_assign (v := (Vi 1)) rfl) rfl ?_
    refine s_nil (hK76 _ _ (genC [(8, (Vp w10.heap.size 0)), (9, (Vi 1))] ⟨g73, rfl, trivial⟩ ?_))
    clear hK76; rintro E ⟨g82, g83, -⟩
    refine ret (hret _ _ [(bv (⟨0, 0, (⟨(⟨0, 0, 0, 0, 0, 0, 0, 0, 0, 0, 0, 0, 0, 0, 0, 0⟩ : V6), 0⟩ : T6), (⟨(⟨0, 0, 0, 0⟩ : V4), 0⟩ : T4), false, 0⟩ : Binding)), (Vi 1)] ⟨⟨_, g82, (rd_agg (vs := zBc) ag36 (On.now hb79) (by kernel_rfl) rfl)⟩, g83, trivial⟩ ?_)
    have hf84 := (BibIs.kp (BibIs.k0 (BibIs.k0 (BibIs.k0 (BibIs.k0 hf25 hk27) hk42) hk62) hk65) hk80 (fun b hb => (fun e => (fun hb => Nat.lt_irrefl _ (nt (BibIs.lt h _ hb) (nl (nl hk8.size hk12.size) (Nat.le_refl _)))) (e ▸ hb))) (Nat.ne_of_lt (nt (nt (hT0.lt) (nl hk8.size hk12.size)) (Nat.le_refl _))))
    have hbe : bindE g st 1 6 t u = 1 := by grind [bindE, owns]
    have hbn : bindE g st 1 6 t u ≠ 0 := by rw [hbe]; first | decide | assumption
    exact ⟨.inl ⟨hbn, by rw [hbe]; rfl, hf84⟩, ka81⟩
  · refine o_gy rfl (.yes rfl (congrArg Value.bool (decide_eq_false c68))) (y_fld fo34_1 g55) ?_
    refine o_gy rfl (.yes rfl (congrArg Value.bool (decide_eq_false c68))) (y_load (v := (Vi (u.port))) rfl (rd_sc sc3 (On.kp (hk62.get0 (hk42.get0 (hk27.get0 (hk16.get0 hb11)))) id) rfl)) ?_
    refine o_one ?_
    refine c_ge rfl (.yes rfl (congrArg Value.bool (decide_eq_false c68))) (e_call ca53 (args := [(Vi (u.port))]) rfl (bport_spec u.port _)) ?_
    rintro _ w85 ⟨rfl, hk86⟩
    have ka87 := (Kp.then0 ka66 hk86)
    have ks88 := (Kp.then0 ks67 hk86)
    refine ⟨ks88, ?_⟩
    refine o_gy rfl (.yes rfl (congrArg Value.bool (decide_eq_false c68))) (y_notd rfl) ?_
    refine o_y rfl (y_pick_f (congrArg Value.bool (decide_eq_false c68)) (v := (.bool (decide (¬ (isPort u.port))))) rfl) ?_
    refine o_y rfl (y_move (v := (.bool (decide (¬ (isPort u.port))))) rfl) ?_
    by_cases c89 : ¬ (isPort u.port)
    · refine o_no rfl (.no rfl (c := true) (congrArg Value.bool (decide_eq_true c89)) rfl) ?_
      refine o_no rfl (.no rfl (c := true) (congrArg Value.bool (decide_eq_true c89)) rfl) ?_
      refine o_no rfl (.no rfl (c := true) (congrArg Value.bool (decide_eq_true c89)) rfl) ?_
      refine o_no rfl (.no rfl (c := true) (congrArg Value.bool (decide_eq_true c89)) rfl) ?_
      refine o_no rfl (.no rfl (c := true) (congrArg Value.bool (decide_eq_true c89)) rfl) ?_
      refine o_no rfl (.no rfl (c := true) (congrArg Value.bool (decide_eq_true c89)) rfl) ?_
      refine o_no rfl (.no rfl (c := true) (congrArg Value.bool (decide_eq_true c89)) rfl) ?_
      refine o_no rfl (.no rfl (c := true) (congrArg Value.bool (decide_eq_true c89)) rfl) ?_
      refine o_one ?_
      refine c_no rfl (.no rfl (c := true) (congrArg Value.bool (decide_eq_true c89)) rfl) ks88 ?_
      refine o_no rfl (.no rfl (c := true) (congrArg Value.bool (decide_eq_true c89)) rfl) ?_
      refine o_y rfl (y_pick_t (congrArg Value.bool (decide_eq_true c89)) (v := Vt) rfl) ?_
      refine o_y rfl (y_assign (v := Vt) rfl) ?_
      refine o_done (hK59 _ _ (genC [(0, (Vp g.tb 0)), (1, (Vi 6)), (6, (Vp w.heap.size 0)), (7, (Vp w6.heap.size 0)), (8, (Vp w10.heap.size 0)), (10, (Vi 1)), (24, Vt)] ⟨g52, g53, g54, g55, g56, g57, rfl, trivial⟩ ?_))
      clear hK59; rintro E ⟨g90, g91, g92, g93, g94, g95, g96, -⟩
      refine cond_t g96 ?_
      refine seq fun K97 hK97 => ?_
      refine reg ?_
      refine s_y (y_build (vs := []) (v := (.agg zBc.toArray)) rfl (fun _ => by kernel_rfl)) rfl ?_
      have hb98 := (hk86.get0 (hk65.get0 (hk62.get0 (hk42.get0 (hk27.get0 hb15)))))
      refine s_e0 (e_storeV (cs' := zBc.toArray) zBc g94 (v := (.agg zBc.toArray)) rfl rfl sz36 hb98 rfl rfl rfl) ?_
      rintro _ w99 ⟨hb100, hk101⟩
      have ka102 := (Kp.fresh ka87 hk101 fun _ e => nl (nl (nl hk8.size hk12.size) (Nat.le_refl _)) (Nat.le_of_eq e.symm))
      refine s_y (y_assign (v := (Vi 1)) rfl) rfl ?_
      refine s_nil (hK97 _ _ (genC [(8, (Vp w10.heap.size 0)), (9, (Vi 1))] ⟨g94, rfl, trivial⟩ ?_))
      clear hK97; rintro E ⟨g103, g104, -⟩
      refine ret (hret _ _ [(bv (⟨0, 0, (⟨(⟨0, 0, 0, 0, 0, 0, 0, 0, 0, 0, 0, 0, 0, 0, 0, 0⟩ : V6), 0⟩ : T6), (⟨(⟨0, 0, 0, 0⟩ : V4), 0⟩ : T4), false, 0⟩ : Binding)), (Vi 1)] ⟨⟨_, g103, (rd_agg (vs := zBc) ag36 (On.now hb100) (by kernel_rfl) rfl)⟩, g104, trivial⟩ ?_)
      have hf105 := (BibIs.kp (BibIs.k0 (BibIs.k0 (BibIs.k0 (BibIs.k0 (BibIs.k0 hf25 hk27) hk42) hk62) hk65) hk86) hk101 (fun b hb => (fun e => (fun hb => Nat.lt_irrefl _ (nt (BibIs.lt h _ hb) (nl (nl hk8.size hk12.size) (Nat.le_refl _)))) (e ▸ hb))) (Nat.ne_of_lt (nt (nt (hT0.lt) (nl hk8.size hk12.size)) (Nat.le_refl _))))
      have hbe : bindE g st 1 6 t u = 1 := by grind [bindE, owns]
      have hbn : bindE g st 1 6 t u ≠ 0 := by rw [hbe]; first | decide | assumption
      exact ⟨.inl ⟨hbn, by rw [hbe]; rfl, hf105⟩, ka102⟩
    · refine o_gy rfl (.yes rfl (congrArg Value.bool (decide_eq_false c89))) (y_move (v := (Vp g.tb 0)) g52) ?_
      refine o_gy rfl (.yes rfl (congrArg Value.bool (decide_eq_false c89))) (y_move (v := (Vi 1)) g57) ?_
      refine o_gy rfl (.yes rfl (congrArg Value.bool (decide_eq_false c89))) (y_nil rfl) ?_
      refine o_gy rfl (.yes rfl (congrArg Value.bool (decide_eq_false c89))) (y_fld fo95_6 rfl) ?_
      refine o_gy rfl (.yes rfl (congrArg Value.bool (decide_eq_false c89))) (y_idxA ao93 sz92 rfl (i := 1) rfl (by omega)) ?_
      refine o_gy rfl (.yes rfl (congrArg Value.bool (decide_eq_false c89))) (y_load (v := (Vp ((g.p 1).pb) 0)) rfl (rd_sc sc92 (On.kp (hk62.get0 (hk42.get0 (hk27.get0 (hk16.get0 (hk12.get0 (hk8.get0 hb0)))))) id) rfl)) ?_
      refine o_gy rfl (.yes rfl (congrArg Value.bool (decide_eq_false c89))) (y_fld fo34_0 g55) ?_
      refine o_gy rfl (.yes rfl (congrArg Value.bool (decide_eq_false c89))) (y_load (v := (v4 u.addr)) rfl (rd_agg (vs := [(u8 u.addr.a), (u8 u.addr.b), (u8 u.addr.c), (u8 u.addr.d)]) ag27 (On.kp (hk62.get0 (hk42.get0 (hk27.get0 (hk16.get0 hb11)))) id) (by kernel_rfl) rfl)) ?_
      refine o_one ?_
      have hf106 := (BibIs.k0 (BibIs.k0 (BibIs.k0 (BibIs.k0 (BibIs.k0 hf25 hk27) hk42) hk62) hk65) hk86)
      refine c_ge rfl (.yes rfl (congrArg Value.bool (decide_eq_false c89))) (e_call ca54 (args := [(Vp ((g.p 1).pb) 0), (v4 u.addr)]) rfl (has_spec (BibIs.pool hf106 1 (by omega)) (ok.pool 1 (by omega)) u.addr)) ?_
      rintro _ w107 ⟨rfl, hk108⟩
      have ka109 := (Kp.then0 ka87 hk108)
      have ks110 := (Kp.then0 ks88 hk108)
      refine ⟨ks110, ?_⟩
      refine o_gy rfl (.yes rfl (congrArg Value.bool (decide_eq_false c89))) (y_notd rfl) ?_
      refine o_y rfl (y_pick_f (congrArg Value.bool (decide_eq_false c89)) (v := (.bool (decide (¬ (u.addr ∈ (g.p 1).l))))) rfl) ?_
      refine o_y rfl (y_assign (v := (.bool (decide (¬ (u.addr ∈ (g.p 1).l))))) rfl) ?_
      refine o_done (hK59 _ _ (genC [(0, (Vp g.tb 0)), (1, (Vi 6)), (6, (Vp w.heap.size 0)), (7, (Vp w6.heap.size 0)), (8, (Vp w10.heap.size 0)), (10, (Vi 1)), (24, (.bool (decide (¬ (u.addr ∈ (g.p 1).l)))))] ⟨g52, g53, g54, g55, g56, g57, rfl, trivial⟩ ?_))
      clear hK59; rintro E ⟨g111, g112, g113, g114, g115, g116, g117, -⟩
      refine cond_d g117 (fun c118 => ?_) (fun c118 => ?_)
      · refine seq fun K119 hK119 => ?_
        refine reg ?_
        refine s_y (y_build (vs := []) (v := (.agg zBc.toArray)) rfl (fun _ => by kernel_rfl)) rfl ?_
        have hb120 := (hk108.get0 (hk86.get0 (hk65.get0 (hk62.get0 (hk42.get0 (hk27.get0 hb15))))))
        refine s_e0 (e_storeV (cs' := zBc.toArray) zBc g115 (v := (.agg zBc.toArray)) rfl rfl sz36 hb120 rfl rfl rfl) ?_
        rintro _ w121 ⟨hb122, hk123⟩
        have ka124 := (Kp.fresh ka109 hk123 fun _ e => nl (nl (nl hk8.size hk12.size) (Nat.le_refl _)) (Nat.le_of_eq e.symm))
        refine s_y (y_assign (v := (Vi 1)) rfl) rfl ?_
        refine s_nil (hK119 _ _ (genC [(8, (Vp w10.heap.size 0)), (9, (Vi 1))] ⟨g115, rfl, trivial⟩ ?_))
        clear hK119; rintro E ⟨g125, g126, -⟩
        refine ret (hret _ _ [(bv (⟨0, 0, (⟨(⟨0, 0, 0, 0, 0, 0, 0, 0, 0, 0, 0, 0, 0, 0, 0, 0⟩ : V6), 0⟩ : T6), (⟨(⟨0, 0, 0, 0⟩ : V4), 0⟩ : T4), false, 0⟩ : Binding)), (Vi 1)] ⟨⟨_, g125, (rd_agg (vs := zBc) ag36 (On.now hb122) (by kernel_rfl) rfl)⟩, g126, trivial⟩ ?_)
        have hf127 := (BibIs.kp (BibIs.k0 hf106 hk108) hk123 (fun b hb => (fun e => (fun hb => Nat.lt_irrefl _ (nt (BibIs.lt h _ hb) (nl (nl hk8.size hk12.size) (Nat.le_refl _)))) (e ▸ hb))) (Nat.ne_of_lt (nt (nt (hT0.lt) (nl hk8.size hk12.size)) (Nat.le_refl _))))
        have hbe : bindE g st 1 6 t u = 1 := by grind [bindE, owns]
        have hbn : bindE g st 1 6 t u ≠ 0 := by rw [hbe]; first | decide | assumption
        exact ⟨.inl ⟨hbn, by rw [hbe]; rfl, hf127⟩, ka124⟩
      · refine skip (hK50 _ _ (genC [(0, (Vp g.tb 0)), (1, (Vi 6)), (6, (Vp w.heap.size 0)), (7, (Vp w6.heap.size 0)), (8, (Vp w10.heap.size 0)), (10, (Vi 1))] ⟨g111, g112, g113, g114, g115, g116, trivial⟩ ?_))
        clear hK50; rintro E ⟨g128, g129, g130, g131, g132, g133, -⟩
        refine seq fun K134 hK134 => ?_
        refine seq fun K135 hK135 => ?_
        refine regD (fun _ => False) (.take 0 (.take 1 (.take 2 (.take 3 (.take 4 (.take 5 (.take 6 (.one 7 (.take 8 (.take 9 (.take 10 (.take 11 (.take 12 .done))))))))))))) mixed (by kernel_rfl) fun w136 hh137 hk138 => ?_
        have ka139 := (Kp.then0 ka109 hk138)
        refine o_y rfl (y_move (v := (Vp g.tb 0)) g128) ?_
        refine o_y rfl (y_move (v := (Vi 1)) g133) ?_
        refine o_y rfl (y_nil rfl) ?_
        refine o_y rfl (y_fld fo95_6 rfl) ?_
        refine o_y rfl (y_idxA ao93 sz92 rfl (i := 1) rfl (by omega)) ?_
        refine o_y rfl (y_load (v := (Vp ((g.p 1).pb) 0)) rfl (rd_sc sc92 (On.kp (hk138.get0 (hk108.get0 (hk86.get0 (hk65.get0 (hk62.get0 (hk42.get0 (hk27.get0 (hk16.get0 (hk12.get0 (hk8.get0 hb0)))))))))) id) rfl)) ?_
        refine o_y rfl (y_load (v := (t4 u)) g131 (rd_agg (vs := u.cs) ag34 (On.kp (hk138.get0 (hk108.get0 (hk86.get0 (hk65.get0 (hk62.get0 (hk42.get0 (hk27.get0 (hk16.get0 hb11)))))))) id) (by kernel_rfl) rfl)) ?_
        refine o_one ?_
        have hf140 := (BibIs.k0 (BibIs.k0 hf106 hk108) hk138)
        refine c_e rfl (e_call ca55 (args := [(Vp ((g.p 1).pb) 0), (t4 u)]) rfl (is_spec (BibIs.pool hf140 1 (by omega)) (ok.pool 1 (by omega)) u hu)) ?_
        rintro _ w141 ⟨rfl, hk142⟩
        have ka143 := (Kp.then0 ka139 hk142)
        have ks144 : Kp (fun _ => False) w136 w141 := (Kp.then0 (Kp.refl _ _) hk142)
        refine ⟨ks144, ?_⟩
        refine o_y rfl (y_move (v := (.tuple #[(.bool (decide (owns (g.p 1).l u ∧ aget (st.h 1) u = some false))), (.bool (decide (owns (g.p 1).l u ∧ aget (st.h 1) u = some true)))])) rfl) ?_
        refine o_y rfl (y_ext rfl (v := (.bool (decide (owns (g.p 1).l u ∧ aget (st.h 1) u = some false)))) rfl) ?_
        refine o_y rfl (y_ext rfl (v := (.bool (decide (owns (g.p 1).l u ∧ aget (st.h 1) u = some true)))) rfl) ?_
        refine o_y rfl (y_assign (v := (.bool (decide (owns (g.p 1).l u ∧ aget (st.h 1) u = some false)))) rfl) ?_
        refine o_y rfl (y_assign (v := (.bool (decide (owns (g.p 1).l u ∧ aget (st.h 1) u = some true)))) rfl) ?_
        refine o_done (hK135 _ _ (genC [(0, (Vp g.tb 0)), (1, (Vi 6)), (6, (Vp w.heap.size 0)), (7, (Vp w6.heap.size 0)), (8, (Vp w10.heap.size 0)), (10, (Vi 1)), (11, (.bool (decide (owns (g.p 1).l u ∧ aget (st.h 1) u = some false)))), (12, (.bool (decide (owns (g.p 1).l u ∧ aget (st.h 1) u = some true))))] ⟨g128, g129, g130, g131, g132, g133, rfl, rfl, trivial⟩ ?_))
        clear hK135; rintro E ⟨g145, g146, g147, g148, g149, g150, g151, g152, -⟩
        refine seq fun K153 hK153 => ?_
        refine reg ?_
        refine s_y (y_move (v := (.bool (decide (owns (g.p 1).l u ∧ aget (st.h 1) u = some false)))) g151) rfl ?_
        refine s_y (y_move (v := (.bool (decide (owns (g.p 1).l u ∧ aget (st.h 1) u = some false)))) rfl) rfl ?_
        by_cases c154 : owns (g.p 1).l u ∧ aget (st.h 1) u = some false
        · refine s_no (.no rfl (c := true) (congrArg Value.bool (decide_eq_true c154)) rfl) rfl ?_
          refine s_y (y_pick_t (congrArg Value.bool (decide_eq_true c154)) (v := Vt) rfl) rfl ?_
          refine s_nil (hK153 _ _ (genC [(0, (Vp g.tb 0)), (1, (Vi 6)), (6, (Vp w.heap.size 0)), (7, (Vp w6.heap.size 0)), (8, (Vp w10.heap.size 0)), (10, (Vi 1)), (62, Vt)] ⟨g145, g146, g147, g148, g149, g150, rfl, trivial⟩ ?_))
          clear hK153; rintro E ⟨g155, g156, g157, g158, g159, g160, g161, -⟩
          refine cond_t g161 ?_
          refine seq fun K162 hK162 => ?_
          refine reg ?_
          refine s_y (y_build (vs := []) (v := (.agg zBc.toArray)) rfl (fun _ => by kernel_rfl)) rfl ?_
          have hb163 := (hk142.get0 (hk138.get0 (hk108.get0 (hk86.get0 (hk65.get0 (hk62.get0 (hk42.get0 (hk27.get0 hb15))))))))
          refine s_e0 (e_storeV (cs' := zBc.toArray) zBc g159 (v := (.agg zBc.toArray)) rfl rfl sz36 hb163 rfl rfl rfl) ?_
          rintro _ w164 ⟨hb165, hk166⟩
          have ka167 := (Kp.fresh ka143 hk166 fun _ e => nl (nl (nl hk8.size hk12.size) (Nat.le_refl _)) (Nat.le_of_eq e.symm))
          refine s_y (y_assign (v := (Vi 5)) rfl) rfl ?_
          refine s_nil (hK162 _ _ (genC [(8, (Vp w10.heap.size 0)), (9, (Vi 5))] ⟨g159, rfl, trivial⟩ ?_))
          clear hK162; rintro E ⟨g168, g169, -⟩
          refine ret (hret _ _ [(bv (⟨0, 0, (⟨(⟨0, 0, 0, 0, 0, 0, 0, 0, 0, 0, 0, 0, 0, 0, 0, 0⟩ : V6), 0⟩ : T6), (⟨(⟨0, 0, 0, 0⟩ : V4), 0⟩ : T4), false, 0⟩ : Binding)), (Vi 5)] ⟨⟨_, g168, (rd_agg (vs := zBc) ag36 (On.now hb165) (by kernel_rfl) rfl)⟩, g169, trivial⟩ ?_)
          have hf170 := (BibIs.kp (BibIs.k0 hf140 hk142) hk166 (fun b hb => (fun e => (fun hb => Nat.lt_irrefl _ (nt (BibIs.lt h _ hb) (nl (nl hk8.size hk12.size) (Nat.le_refl _)))) (e ▸ hb))) (Nat.ne_of_lt (nt (nt (hT0.lt) (nl hk8.size hk12.size)) (Nat.le_refl _))))
          have hbe : bindE g st 1 6 t u = 5 := by grind [bindE, owns]
          have hbn : bindE g st 1 6 t u ≠ 0 := by rw [hbe]; first | decide | assumption
          exact ⟨.inl ⟨hbn, by rw [hbe]; rfl, hf170⟩, ka167⟩
        · refine s_gy (.yes rfl (congrArg Value.bool (decide_eq_false c154))) (y_move (v := (.bool (decide (owns (g.p 1).l u ∧ aget (st.h 1) u = some true)))) g152) rfl ?_
          refine s_y (y_pick_f (congrArg Value.bool (decide_eq_false c154)) (v := (.bool (decide (owns (g.p 1).l u ∧ aget (st.h 1) u = some true)))) rfl) rfl ?_
          refine s_nil (hK153 _ _ (genC [(0, (Vp g.tb 0)), (1, (Vi 6)), (6, (Vp w.heap.size 0)), (7, (Vp w6.heap.size 0)), (8, (Vp w10.heap.size 0)), (10, (Vi 1)), (62, (.bool (decide (owns (g.p 1).l u ∧ aget (st.h 1) u = some true))))] ⟨g145, g146, g147, g148, g149, g150, rfl, trivial⟩ ?_))
          clear hK153; rintro E ⟨g171, g172, g173, g174, g175, g176, g177, -⟩
          refine cond_d g177 (fun c178 => ?_) (fun c178 => ?_)
          · refine seq fun K179 hK179 => ?_
            refine reg ?_
            refine s_y (y_build (vs := []) (v := (.agg zBc.toArray)) rfl (fun _ => by kernel_rfl)) rfl ?_
            have hb180 := (hk142.get0 (hk138.get0 (hk108.get0 (hk86.get0 (hk65.get0 (hk62.get0 (hk42.get0 (hk27.get0 hb15))))))))
            refine s_e0 (e_storeV (cs' := zBc.toArray) zBc g175 (v := (.agg zBc.toArray)) rfl rfl sz36 hb180 rfl rfl rfl) ?_
            rintro _ w181 ⟨hb182, hk183⟩
            have ka184 := (Kp.fresh ka143 hk183 fun _ e => nl (nl (nl hk8.size hk12.size) (Nat.le_refl _)) (Nat.le_of_eq e.symm))
            refine s_y (y_assign (v := (Vi 5)) rfl) rfl ?_
            refine s_nil (hK179 _ _ (genC [(8, (Vp w10.heap.size 0)), (9, (Vi 5))] ⟨g175, rfl, trivial⟩ ?_))
            clear hK179; rintro E ⟨g185, g186, -⟩
            refine ret (hret _ _ [(bv (⟨0, 0, (⟨(⟨0, 0, 0, 0, 0, 0, 0, 0, 0, 0, 0, 0, 0, 0, 0, 0⟩ : V6), 0⟩ : T6), (⟨(⟨0, 0, 0, 0⟩ : V4), 0⟩ : T4), false, 0⟩ : Binding)), (Vi 5)] ⟨⟨_, g185, (rd_agg (vs := zBc) ag36 (On.now hb182) (by kernel_rfl) rfl)⟩, g186, trivial⟩ ?_)
            have hf187 := (BibIs.kp (BibIs.k0 hf140 hk142) hk183 (fun b hb => (fun e => (fun hb => Nat.lt_irrefl _ (nt (BibIs.lt h _ hb) (nl (nl hk8.size hk12.size) (Nat.le_refl _)))) (e ▸ hb))) (Nat.ne_of_lt (nt (nt (hT0.lt) (nl hk8.size hk12.size)) (Nat.le_refl _))))
            have hbe : bindE g st 1 6 t u = 5 := by grind [bindE, owns]
            have hbn : bindE g st 1 6 t u ≠ 0 := by rw [hbe]; first | decide | assumption
            exact ⟨.inl ⟨hbn, by rw [hbe]; rfl, hf187⟩, ka184⟩
          · refine skip (hK134 _ _ (genC [(0, (Vp g.tb 0)), (1, (Vi 6)), (6, (Vp w.heap.size 0)), (7, (Vp w6.heap.size 0)), (8, (Vp w10.heap.size 0)), (10, (Vi 1))] ⟨g171, g172, g173, g174, g175, g176, trivial⟩ ?_))
            clear hK134; rintro E ⟨g188, g189, g190, g191, g192, g193, -⟩
            refine seq fun K194 hK194 => ?_
            refine seq fun K195 hK195 => ?_
            refine reg ?_
            refine s_y (y_move (v := (Vp g.tb 0)) g188) rfl ?_
            refine s_y (y_move (v := (Vi 6)) g189) rfl ?_
            have hb196 := (hk142.get0 (hk138.get0 (hk108.get0 (hk86.get0 (hk65.get0 (hk62.get0 (hk42.get0 (hk27.get0 (hk16.get0 (hk12.get0 hb7))))))))))
            refine s_y (y_load (v := (t6 t)) g190 (rd_agg (vs := t.cs) ag32 (On.now hb196) (by kernel_rfl) rfl)) rfl ?_
            have hf197 := (BibIs.k0 hf140 hk142)
            refine s_e (e_call ca46 (args := [(Vp g.tb 0), (Vi 6), (t6 t)]) rfl (mayb_spec ok hf197 6 t (by omega) (by omega))) rfl ?_
            rintro _ w198 ⟨rfl, hk199⟩
            have ka200 := (Kp.then0 ka143 hk199)
            refine s_y (y_assign (v := (Vi ((mayE g st 6 t)))) rfl) rfl ?_
            refine s_nil (hK195 _ _ (genC [(0, (Vp g.tb 0)), (1, (Vi 6)), (6, (Vp w.heap.size 0)), (7, (Vp w6.heap.size 0)), (8, (Vp w10.heap.size 0)), (10, (Vi 1)), (13, (Vi ((mayE g st 6 t))))] ⟨g188, g189, g190, g191, g192, g193, rfl, trivial⟩ ?_))
            clear hK195; rintro E ⟨g201, g202, g203, g204, g205, g206, g207, -⟩
            refine seq fun K208 hK208 => ?_
            refine reg ?_
            refine s_y (y_move (v := (Vi ((mayE g st 6 t)))) g207) rfl ?_
            refine s_y (y_neq rfl rfl) rfl ?_
            refine s_nil (hK208 _ _ (genC [(0, (Vp g.tb 0)), (1, (Vi 6)), (6, (Vp w.heap.size 0)), (7, (Vp w6.heap.size 0)), (8, (Vp w10.heap.size 0)), (10, (Vi 1)), (13, (Vi ((mayE g st 6 t)))), (69, (.bool (decide (((mayE g st 6 t) : Int) ≠ 0))))] ⟨g201, g202, g203, g204, g205, g206, g207, rfl, trivial⟩ ?_))
            clear hK208; rintro E ⟨g209, g210, g211, g212, g213, g214, g215, g216, -⟩
            refine cond_d g216 (fun c217 => ?_) (fun c217 => ?_)
            · refine seq fun K218 hK218 => ?_
              refine reg ?_
              refine s_y (y_build (vs := []) (v := (.agg zBc.toArray)) rfl (fun _ => by kernel_rfl)) rfl ?_
              refine s_y (y_move (v := (Vi ((mayE g st 6 t)))) g215) rfl ?_
              have hb219 := (hk199.get0 (hk142.get0 (hk138.get0 (hk108.get0 (hk86.get0 (hk65.get0 (hk62.get0 (hk42.get0 (hk27.get0 hb15)))))))))
              refine s_e0 (e_storeV (cs' := zBc.toArray) zBc g213 (v := (.agg zBc.toArray)) rfl rfl sz36 hb219 rfl rfl rfl) ?_
              rintro _ w220 ⟨hb221, hk222⟩
              have ka223 := (Kp.fresh ka200 hk222 fun _ e => nl (nl (nl hk8.size hk12.size) (Nat.le_refl _)) (Nat.le_of_eq e.symm))
              refine s_y (y_assign (v := (Vi ((mayE g st 6 t)))) rfl) rfl ?_
              refine s_nil (hK218 _ _ (genC [(8, (Vp w10.heap.size 0)), (9, (Vi ((mayE g st 6 t))))] ⟨g213, rfl, trivial⟩ ?_))
              clear hK218; rintro E ⟨g224, g225, -⟩
              refine ret (hret _ _ [(bv (⟨0, 0, (⟨(⟨0, 0, 0, 0, 0, 0, 0, 0, 0, 0, 0, 0, 0, 0, 0, 0⟩ : V6), 0⟩ : T6), (⟨(⟨0, 0, 0, 0⟩ : V4), 0⟩ : T4), false, 0⟩ : Binding)), (Vi ((mayE g st 6 t)))] ⟨⟨_, g224, (rd_agg (vs := zBc) ag36 (On.now hb221) (by kernel_rfl) rfl)⟩, g225, trivial⟩ ?_)
              have hf226 := (BibIs.kp (BibIs.k0 hf197 hk199) hk222 (fun b hb => (fun e => (fun hb => Nat.lt_irrefl _ (nt (BibIs.lt h _ hb) (nl (nl hk8.size hk12.size) (Nat.le_refl _)))) (e ▸ hb))) (Nat.ne_of_lt (nt (nt (hT0.lt) (nl hk8.size hk12.size)) (Nat.le_refl _))))
              have hbe : bindE g st 1 6 t u = (mayE g st 6 t) := bindE_may (by assumption) (by assumption) (by assumption) (by assumption) (by assumption)
              have hbn : bindE g st 1 6 t u ≠ 0 := by rw [hbe]; first | decide | assumption
              exact ⟨.inl ⟨hbn, by rw [hbe]; rfl, hf226⟩, ka223⟩
            · refine skip (hK194 _ _ (genC [(0, (Vp g.tb 0)), (1, (Vi 6)), (6, (Vp w.heap.size 0)), (7, (Vp w6.heap.size 0)), (8, (Vp w10.heap.size 0)), (10, (Vi 1))] ⟨g209, g210, g211, g212, g213, g214, trivial⟩ ?_))
              clear hK194; rintro E ⟨g227, g228, g229, g230, g231, g232, -⟩
              refine seq fun K233 hK233 => ?_
              refine seq fun K234 hK234 => ?_
              refine regD (· = (g.p 1).mb) (.take 0 (.take 1 (.take 2 (.take 3 (.take 4 (.take 5 (.take 6 (.one 7 (.take 8 .done))))))))) mixed (by kernel_rfl) fun w235 hh236 hk237 => ?_
              have ka238 := (Kp.then0 ka200 hk237)
              refine o_y rfl (y_move (v := (Vp g.tb 0)) g227) ?_
              refine o_y rfl (y_move (v := (Vi 1)) g232) ?_
              refine o_y rfl (y_nil rfl) ?_
              refine o_y rfl (y_fld fo95_6 rfl) ?_
              refine o_y rfl (y_idxA ao93 sz92 rfl (i := 1) rfl (by omega)) ?_
              refine o_y rfl (y_load (v := (Vp ((g.p 1).pb) 0)) rfl (rd_sc sc92 (On.kp (hk237.get0 (hk199.get0 (hk142.get0 (hk138.get0 (hk108.get0 (hk86.get0 (hk65.get0 (hk62.get0 (hk42.get0 (hk27.get0 (hk16.get0 (hk12.get0 (hk8.get0 hb0))))))))))))) (blocks_ne h.nd (i := 0) (j := 11) (by decide) rfl rfl)) rfl)) ?_
              refine o_y rfl (y_load (v := (t4 u)) g230 (rd_agg (vs := u.cs) ag34 (On.kp (hk237.get0 (hk199.get0 (hk142.get0 (hk138.get0 (hk108.get0 (hk86.get0 (hk65.get0 (hk62.get0 (hk42.get0 (hk27.get0 (hk16.get0 hb11))))))))))) (Nat.ne_of_gt (nt (nt ((BibIs.lt h _ (mem_blocks (List.mem_of_getElem? (i := 11) (rfl : g.blocks[11]? = some (g.p 1).mb))))) hk8.size) (Nat.le_refl _)))) (by kernel_rfl) rfl)) ?_
              refine o_one ?_
              have hf239 := (BibIs.k0 (BibIs.k0 hf197 hk199) hk237)
              have hfr9 := free_of (l := (g.p 1).l) (held := st.h 1) (u := u) (by assumption) (by assumption) (by assumption) (by assumption); have hag9 := hfr9.2; have hres9 := pRes_of hfr9
              refine c_e rfl (e_call ca56 (args := [(Vp ((g.p 1).pb) 0), (t4 u)]) rfl (show Rets _ _ _ _ (fun v w1 => v = .int .i64 0 ∧ PoolIs (g.p 1) (st.h 1 ++ [(u, true)]) w1 ∧ Kp (· = (g.p 1).mb) w235 w1) from by have h9 := reserve_spec (BibIs.pool hf239 1 (by omega)) (ok.pool 1 (by omega)) u hu; rw [hres9] at h9; exact h9)) ?_
              rintro _ w240 ⟨rfl, hp242, hk241⟩
              have hB9 := BibIs.pool_put hf239 (k := 1) (by omega) hp242 hk241
              have ka243 := (Kp.trans ka238 hk241 (fun _ _ e => (fun e => (.inr (.inr (.inr (.inr (.inr (.inr e))))))) e))
              have ks244 : Kp (· = (g.p 1).mb) w235 w240 := (Kp.trans (Kp.refl _ _) hk241 (fun _ _ e => e))
              obtain ⟨hm1, hm2, hm3, hm4⟩ := mayE_zero (Decidable.not_not.1 c217)
              refine ⟨ks244, ?_⟩
              refine o_y rfl (y_assign (v := (Vi 0)) rfl) ?_
              refine o_done (hK234 _ _ (genC [(0, (Vp g.tb 0)), (1, (Vi 6)), (6, (Vp w.heap.size 0)), (7, (Vp w6.heap.size 0)), (8, (Vp w10.heap.size 0)), (14, (Vi 0))] ⟨g227, g228, g229, g230, g231, rfl, trivial⟩ ?_))
              clear hK234; rintro E ⟨g245, g246, g247, g248, g249, g250, -⟩
              refine seq fun K251 hK251 => ?_
              refine reg ?_
              refine s_y (y_move (v := (Vi 0)) g250) rfl ?_
              refine s_y (y_neq rfl rfl) rfl ?_
              refine s_nil (hK251 _ _ (genC [(0, (Vp g.tb 0)), (1, (Vi 6)), (6, (Vp w.heap.size 0)), (7, (Vp w6.heap.size 0)), (8, (Vp w10.heap.size 0)), (14, (Vi 0)), (81, Vf)] ⟨g245, g246, g247, g248, g249, g250, rfl, trivial⟩ ?_))
              clear hK251; rintro E ⟨g252, g253, g254, g255, g256, g257, g258, -⟩
              refine cond_f g258 ?_
              refine skip (hK233 _ _ (genC [(0, (Vp g.tb 0)), (1, (Vi 6)), (6, (Vp w.heap.size 0)), (7, (Vp w6.heap.size 0)), (8, (Vp w10.heap.size 0))] ⟨g252, g253, g254, g255, g256, trivial⟩ ?_))
              clear hK233; rintro E ⟨g259, g260, g261, g262, g263, -⟩
              refine seq fun K264 hK264 => ?_
              refine reg ?_
              refine s_y (y_move (v := (Vp g.tb 0)) g259) rfl ?_
              refine s_y (y_move (v := (Vi 6)) g260) rfl ?_
              have hb265 := (hk241.get (hk237.get0 (hk199.get0 hb196)) (Nat.ne_of_gt (nt ((BibIs.lt h _ (mem_blocks (List.mem_of_getElem? (i := 11) (rfl : g.blocks[11]? = some (g.p 1).mb))))) (Nat.le_refl _))))
              refine s_y (y_load (v := (t6 t)) g261 (rd_agg (vs := t.cs) ag32 (On.now hb265) (by kernel_rfl) rfl)) rfl ?_
              have hb266 := (hk241.get (hk237.get0 (hk199.get0 (hk142.get0 (hk138.get0 (hk108.get0 (hk86.get0 (hk65.get0 (hk62.get0 (hk42.get0 (hk27.get0 (hk16.get0 hb11))))))))))) (Nat.ne_of_gt (nt (nt ((BibIs.lt h _ (mem_blocks (List.mem_of_getElem? (i := 11) (rfl : g.blocks[11]? = some (g.p 1).mb))))) hk8.size) (Nat.le_refl _))))
              refine s_y (y_load (v := (t4 u)) g262 (rd_agg (vs := u.cs) ag34 (On.now hb266) (by kernel_rfl) rfl)) rfl ?_
              refine s_y (y_build (vs := [(1, (Vi 6)), (2, (t6 t)), (3, (t4 u)), (4, Vt)]) (v := (.agg #[.int .i64 0, .int .i64 6, u8 t.addr.b0, u8 t.addr.b1, u8 t.addr.b2, u8 t.addr.b3, u8 t.addr.b4, u8 t.addr.b5, u8 t.addr.b6, u8 t.addr.b7, u8 t.addr.b8, u8 t.addr.b9, u8 t.addr.b10, u8 t.addr.b11, u8 t.addr.b12, u8 t.addr.b13, u8 t.addr.b14, u8 t.addr.b15, .int .i64 (t.port), u8 u.addr.a, u8 u.addr.b, u8 u.addr.c, u8 u.addr.d, .int .i64 (u.port), .bool true, .int .i64 0])) rfl (fun _ => by kernel_rfl)) rfl ?_
              refine s_e (e_call ca48 (args := [(Vp g.tb 0), (.agg #[.int .i64 0, .int .i64 6, u8 t.addr.b0, u8 t.addr.b1, u8 t.addr.b2, u8 t.addr.b3, u8 t.addr.b4, u8 t.addr.b5, u8 t.addr.b6, u8 t.addr.b7, u8 t.addr.b8, u8 t.addr.b9, u8 t.addr.b10, u8 t.addr.b11, u8 t.addr.b12, u8 t.addr.b13, u8 t.addr.b14, u8 t.addr.b15, .int .i64 (t.port), u8 u.addr.a, u8 u.addr.b, u8 u.addr.c, u8 u.addr.d, .int .i64 (u.port), .bool true, .int .i64 0])]) rfl (putb_spec ok hB9 (⟨0, 6, t, u, true, 0⟩ : Binding) (show -9223372036854775808 ≤ (6 : Int) ∧ (6 : Int) ≤ 9223372036854775807 from ⟨by decide, by decide⟩) ht hu hle hla hm4 hm3 (out_none hout hag9))) rfl ?_
              rintro _ w267 ⟨⟨x269, rfl, hx270, hP271⟩, hk268⟩
              have ka272 := (Kp.trans ka243 hk268 (fun _ _ e => (fun e => e.elim (fun e => (.inl e)) (fun e => e.elim (fun e => (.inr (.inl e))) (fun e => e.elim (fun e => (.inr (.inr (.inl e)))) (fun e => e.elim (fun e => (.inr (.inr (.inr (.inl e))))) (fun e => e.elim (fun e => (.inr (.inr (.inr (.inr (.inl e)))))) (fun e => (.inr (.inr (.inr (.inr (.inr (.inl e)))))))))))) e))
              have hb273 := BibIs.blk hP271; have hm274 := BibIs.map hP271; have hT275 := BibIs.tb hP271
              have hb276 := (hk268.get (hk241.get (hk237.get0 (hk199.get0 (hk142.get0 (hk138.get0 (hk108.get0 (hk86.get0 (hk65.get0 (hk62.get0 (hk42.get0 (hk27.get0 hb15)))))))))) (Nat.ne_of_gt (nt (nt ((BibIs.lt h _ (mem_blocks (List.mem_of_getElem? (i := 11) (rfl : g.blocks[11]? = some (g.p 1).mb))))) (nl hk8.size hk12.size)) (Nat.le_refl _)))) (not_or.2 ⟨(Nat.ne_of_gt (nt (nt (lt_of_get hb0) (nl hk8.size hk12.size)) (Nat.le_refl _))), (not_or.2 ⟨(Nat.ne_of_gt (nt (nt (hm0.lt) (nl hk8.size hk12.size)) (Nat.le_refl _))), (not_or.2 ⟨(Nat.ne_of_gt (nt (nt ((BibIs.lt h _ (mem_blocks (List.mem_of_getElem? (i := 2) (rfl : g.blocks[2]? = some g.i1.ib))))) (nl hk8.size hk12.size)) (Nat.le_refl _))), (not_or.2 ⟨(Nat.ne_of_gt (nt (nt ((BibIs.lt h _ (mem_blocks (List.mem_of_getElem? (i := 3) (rfl : g.blocks[3]? = some g.i1.sb))))) (nl hk8.size hk12.size)) (Nat.le_refl _))), (not_or.2 ⟨(Nat.ne_of_gt (nt (nt ((BibIs.lt h _ (mem_blocks (List.mem_of_getElem? (i := 4) (rfl : g.blocks[4]? = some g.i2.ib))))) (nl hk8.size hk12.size)) (Nat.le_refl _))), (Nat.ne_of_gt (nt (nt ((BibIs.lt h _ (mem_blocks (List.mem_of_getElem? (i := 5) (rfl : g.blocks[5]? = some g.i2.sb))))) (nl hk8.size hk12.size)) (Nat.le_refl _)))⟩)⟩)⟩)⟩)⟩))
              refine s_e0 (e_storeV (cs' := #[(Vi ((⟨st.last + 1, 6, t, u, true, 0⟩ : Binding).id)), (Vi ((⟨st.last + 1, 6, t, u, true, 0⟩ : Binding).proto)), (u8 (((⟨st.last + 1, 6, t, u, true, 0⟩ : Binding).inn).addr).b0), (u8 (((⟨st.last + 1, 6, t, u, true, 0⟩ : Binding).inn).addr).b1), (u8 (((⟨st.last + 1, 6, t, u, true, 0⟩ : Binding).inn).addr).b2), (u8 (((⟨st.last + 1, 6, t, u, true, 0⟩ : Binding).inn).addr).b3), (u8 (((⟨st.last + 1, 6, t, u, true, 0⟩ : Binding).inn).addr).b4), (u8 (((⟨st.last + 1, 6, t, u, true, 0⟩ : Binding).inn).addr).b5), (u8 (((⟨st.last + 1, 6, t, u, true, 0⟩ : Binding).inn).addr).b6), (u8 (((⟨st.last + 1, 6, t, u, true, 0⟩ : Binding).inn).addr).b7), (u8 (((⟨st.last + 1, 6, t, u, true, 0⟩ : Binding).inn).addr).b8), (u8 (((⟨st.last + 1, 6, t, u, true, 0⟩ : Binding).inn).addr).b9), (u8 (((⟨st.last + 1, 6, t, u, true, 0⟩ : Binding).inn).addr).b10), (u8 (((⟨st.last + 1, 6, t, u, true, 0⟩ : Binding).inn).addr).b11), (u8 (((⟨st.last + 1, 6, t, u, true, 0⟩ : Binding).inn).addr).b12), (u8 (((⟨st.last + 1, 6, t, u, true, 0⟩ : Binding).inn).addr).b13), (u8 (((⟨st.last + 1, 6, t, u, true, 0⟩ : Binding).inn).addr).b14), (u8 (((⟨st.last + 1, 6, t, u, true, 0⟩ : Binding).inn).addr).b15), (Vi (((⟨st.last + 1, 6, t, u, true, 0⟩ : Binding).inn).port)), (u8 (((⟨st.last + 1, 6, t, u, true, 0⟩ : Binding).out).addr).a), (u8 (((⟨st.last + 1, 6, t, u, true, 0⟩ : Binding).out).addr).b), (u8 (((⟨st.last + 1, 6, t, u, true, 0⟩ : Binding).out).addr).c), (u8 (((⟨st.last + 1, 6, t, u, true, 0⟩ : Binding).out).addr).d), (Vi (((⟨st.last + 1, 6, t, u, true, 0⟩ : Binding).out).port)), (.bool ((⟨st.last + 1, 6, t, u, true, 0⟩ : Binding).static)), (Vi ((⟨st.last + 1, 6, t, u, true, 0⟩ : Binding).sessions))]) [(Vi ((⟨st.last + 1, 6, t, u, true, 0⟩ : Binding).id)), (Vi ((⟨st.last + 1, 6, t, u, true, 0⟩ : Binding).proto)), (u8 (((⟨st.last + 1, 6, t, u, true, 0⟩ : Binding).inn).addr).b0), (u8 (((⟨st.last + 1, 6, t, u, true, 0⟩ : Binding).inn).addr).b1), (u8 (((⟨st.last + 1, 6, t, u, true, 0⟩ : Binding).inn).addr).b2), (u8 (((⟨st.last + 1, 6, t, u, true, 0⟩ : Binding).inn).addr).b3), (u8 (((⟨st.last + 1, 6, t, u, true, 0⟩ : Binding).inn).addr).b4), (u8 (((⟨st.last + 1, 6, t, u, true, 0⟩ : Binding).inn).addr).b5), (u8 (((⟨st.last + 1, 6, t, u, true, 0⟩ : Binding).inn).addr).b6), (u8 (((⟨st.last + 1, 6, t, u, true, 0⟩ : Binding).inn).addr).b7), (u8 (((⟨st.last + 1, 6, t, u, true, 0⟩ : Binding).inn).addr).b8), (u8 (((⟨st.last + 1, 6, t, u, true, 0⟩ : Binding).inn).addr).b9), (u8 (((⟨st.last + 1, 6, t, u, true, 0⟩ : Binding).inn).addr).b10), (u8 (((⟨st.last + 1, 6, t, u, true, 0⟩ : Binding).inn).addr).b11), (u8 (((⟨st.last + 1, 6, t, u, true, 0⟩ : Binding).inn).addr).b12), (u8 (((⟨st.last + 1, 6, t, u, true, 0⟩ : Binding).inn).addr).b13), (u8 (((⟨st.last + 1, 6, t, u, true, 0⟩ : Binding).inn).addr).b14), (u8 (((⟨st.last + 1, 6, t, u, true, 0⟩ : Binding).inn).addr).b15), (Vi (((⟨st.last + 1, 6, t, u, true, 0⟩ : Binding).inn).port)), (u8 (((⟨st.last + 1, 6, t, u, true, 0⟩ : Binding).out).addr).a), (u8 (((⟨st.last + 1, 6, t, u, true, 0⟩ : Binding).out).addr).b), (u8 (((⟨st.last + 1, 6, t, u, true, 0⟩ : Binding).out).addr).c), (u8 (((⟨st.last + 1, 6, t, u, true, 0⟩ : Binding).out).addr).d), (Vi (((⟨st.last + 1, 6, t, u, true, 0⟩ : Binding).out).port)), (.bool ((⟨st.last + 1, 6, t, u, true, 0⟩ : Binding).static)), (Vi ((⟨st.last + 1, 6, t, u, true, 0⟩ : Binding).sessions))] g263 (v := (bv (⟨st.last + 1, 6, t, u, true, 0⟩ : Binding))) rfl rfl sz36 hb276 rfl rfl rfl) ?_
              rintro _ w277 ⟨hb278, hk279⟩
              have ka280 := (Kp.fresh ka272 hk279 fun _ e => nl (nl (nl hk8.size hk12.size) (Nat.le_refl _)) (Nat.le_of_eq e.symm))
              refine s_y (y_assign (v := (Vi 0)) rfl) rfl ?_
              refine s_nil (hK264 _ _ (genC [(8, (Vp w10.heap.size 0)), (9, (Vi 0))] ⟨g263, rfl, trivial⟩ ?_))
              clear hK264; rintro E ⟨g281, g282, -⟩
              refine ret (hret _ _ [(bv (⟨(⟨st.last + 1, 6, t, u, true, 0⟩ : Binding).id, (⟨st.last + 1, 6, t, u, true, 0⟩ : Binding).proto, (⟨(((⟨st.last + 1, 6, t, u, true, 0⟩ : Binding).inn).addr), ((⟨st.last + 1, 6, t, u, true, 0⟩ : Binding).inn).port⟩ : T6), (⟨(((⟨st.last + 1, 6, t, u, true, 0⟩ : Binding).out).addr), ((⟨st.last + 1, 6, t, u, true, 0⟩ : Binding).out).port⟩ : T4), (⟨st.last + 1, 6, t, u, true, 0⟩ : Binding).static, (⟨st.last + 1, 6, t, u, true, 0⟩ : Binding).sessions⟩ : Binding)), (Vi 0)] ⟨⟨_, g281, (rd_agg (vs := [(Vi ((⟨st.last + 1, 6, t, u, true, 0⟩ : Binding).id)), (Vi ((⟨st.last + 1, 6, t, u, true, 0⟩ : Binding).proto)), (u8 (((⟨st.last + 1, 6, t, u, true, 0⟩ : Binding).inn).addr).b0), (u8 (((⟨st.last + 1, 6, t, u, true, 0⟩ : Binding).inn).addr).b1), (u8 (((⟨st.last + 1, 6, t, u, true, 0⟩ : Binding).inn).addr).b2), (u8 (((⟨st.last + 1, 6, t, u, true, 0⟩ : Binding).inn).addr).b3), (u8 (((⟨st.last + 1, 6, t, u, true, 0⟩ : Binding).inn).addr).b4), (u8 (((⟨st.last + 1, 6, t, u, true, 0⟩ : Binding).inn).addr).b5), (u8 (((⟨st.last + 1, 6, t, u, true, 0⟩ : Binding).inn).addr).b6), (u8 (((⟨st.last + 1, 6, t, u, true, 0⟩ : Binding).inn).addr).b7), (u8 (((⟨st.last + 1, 6, t, u, true, 0⟩ : Binding).inn).addr).b8), (u8 (((⟨st.last + 1, 6, t, u, true, 0⟩ : Binding).inn).addr).b9), (u8 (((⟨st.last + 1, 6, t, u, true, 0⟩ : Binding).inn).addr).b10), (u8 (((⟨st.last + 1, 6, t, u, true, 0⟩ : Binding).inn).addr).b11), (u8 (((⟨st.last + 1, 6, t, u, true, 0⟩ : Binding).inn).addr).b12), (u8 (((⟨st.last + 1, 6, t, u, true, 0⟩ : Binding).inn).addr).b13), (u8 (((⟨st.last + 1, 6, t, u, true, 0⟩ : Binding).inn).addr).b14), (u8 (((⟨st.last + 1, 6, t, u, true, 0⟩ : Binding).inn).addr).b15), (Vi (((⟨st.last + 1, 6, t, u, true, 0⟩ : Binding).inn).port)), (u8 (((⟨st.last + 1, 6, t, u, true, 0⟩ : Binding).out).addr).a), (u8 (((⟨st.last + 1, 6, t, u, true, 0⟩ : Binding).out).addr).b), (u8 (((⟨st.last + 1, 6, t, u, true, 0⟩ : Binding).out).addr).c), (u8 (((⟨st.last + 1, 6, t, u, true, 0⟩ : Binding).out).addr).d), (Vi (((⟨st.last + 1, 6, t, u, true, 0⟩ : Binding).out).port)), (.bool ((⟨st.last + 1, 6, t, u, true, 0⟩ : Binding).static)), (Vi ((⟨st.last + 1, 6, t, u, true, 0⟩ : Binding).sessions))]) ag36 (On.now hb278) (by kernel_rfl) rfl)⟩, g282, trivial⟩ ?_)
              have hz283 := (nl (nl (nl (nl (nl (nl (nl (nl (nl (nl hk27.size hk42.size) hk62.size) hk65.size) hk86.size) hk108.size) hk138.size) hk142.size) hk199.size) hk237.size) hk241.size)
              have hf284 := (BibIs.kp hP271 hk279 (fun b hb => (fun e => (fun hb => (bfp_add hb).elim (fun hb => Nat.lt_irrefl _ (nt (BibIs.lt h _ hb) (nl (nl hk8.size hk12.size) (Nat.le_refl _)))) (fun e => Nat.ne_of_lt (nt (nt (lt_of_get hb15) hz283) hx270) e)) (e ▸ hb))) (Nat.ne_of_lt (nt (nt (hT0.lt) (nl hk8.size hk12.size)) (Nat.le_refl _))))
              have hbe : bindE g st 1 6 t u = 0 := (bindE_may (by assumption) (by assumption) (by assumption) (by assumption) (by assumption)).trans (Decidable.not_not.1 (by assumption))
              have hz285 := (nl (nl (nl (nl (nl (nl (nl (nl (nl (nl (nl (nl (nl hk8.size hk12.size) hk16.size) hk27.size) hk42.size) hk62.size) hk65.size) hk86.size) hk108.size) hk138.size) hk142.size) hk199.size) hk237.size) hk241.size)
              exact ⟨.inr ⟨hbe, _, rfl, nl hz285 hx270, hf284⟩, ka280⟩

theorem bind_2 {g : BibG} {st : BibS} {w : World} (ok : BibOk g) (h : BibIs g st w) (t : T6) (u : T4) (ht : -9223372036854775808 ≤ t.port ∧ t.port ≤ 9223372036854775807) (hu : -9223372036854775808 ≤ u.port ∧ u.port ≤ 9223372036854775807) (hle : ∀ q ∈ st.l, q.1.id ≤ st.last) (hla : 0 ≤ st.last ∧ st.last ≤ 4611686018427387904) (hout : ∀ q ∈ st.l, q.1.proto = 17 → aget (st.h 2) q.1.out ≠ none) : Rets Tryd.prog 19 #[(.pointer (some ⟨g.tb, 0, none⟩)), (.int .i64 17), (t6 t), (t4 u)] w fun v w' => ((bindE g st 2 17 t u ≠ 0 ∧ v = .tuple #[bv zeroB, .int .i64 (bindE g st 2 17 t u)] ∧ BibIs g st w') ∨ (bindE g st 2 17 t u = 0 ∧ ∃ x, v = .tuple #[bv ⟨st.last + 1, 17, t, u, true, 0⟩, .int .i64 0] ∧ w.heap.size ≤ x ∧ BibIs g ⟨st.last + 1, st.l ++ [(⟨st.last + 1, 17, t, u, true, 0⟩, x)], setH st.h 2 (st.h 2 ++ [(u, true)])⟩ w')) ∧ Kp (fun k => k = g.tb ∨ k = g.mb ∨ k = g.i1.ib ∨ k = g.i1.sb ∨ k = g.i2.ib ∨ k = g.i2.sb ∨ k = (g.p 2).mb) w w' := by
  refine enter Tryd.func19 rfl Tryd.ntmps19 rfl fun Q hret hend E hE => ?_
  have g1 : E 0 = (Vp g.tb 0) := hE 0
  have g2 : E 1 = (Vi 17) := hE 1
  have g3 : E 2 = (t6 t) := hE 2
  have g4 : E 3 = (t4 u) := hE 3
  clear hE
  have hb0 := h.blk; have hm0 := h.map; have hT0 := h.tb; have hn1 : g.tb ≠ g.mb := blk_ne_map h.blk h.map
  refine seq fun K5 hK5 => ?_
  refine reg ?_
  refine s_e (e_box (v := (t6 t)) g3) rfl ?_
  rintro _ w6 ⟨rfl, hb7, hk8⟩
  have ka9 : Kp (fun k => k = g.tb ∨ k = g.mb ∨ k = g.i1.ib ∨ k = g.i1.sb ∨ k = g.i2.ib ∨ k = g.i2.sb ∨ k = (g.p 2).mb) w w6 := (Kp.then0 (Kp.refl _ _) hk8)
  refine s_e (e_box (v := (t4 u)) g4) rfl ?_
  rintro _ w10 ⟨rfl, hb11, hk12⟩
  have ka13 := (Kp.then0 ka9 hk12)
  refine s_e (e_alloc ze36) rfl ?_
  rintro _ w14 ⟨rfl, hb15, hk16⟩
  have ka17 := (Kp.then0 ka13 hk16)
  refine s_y (y_assign (v := (Vi 0)) rfl) rfl ?_
  refine s_nil (hK5 _ _ (genC [(0, (Vp g.tb 0)), (1, (Vi 17)), (6, (Vp w.heap.size 0)), (7, (Vp w6.heap.size 0)), (8, (Vp w10.heap.size 0))] ⟨g1, g2, rfl, rfl, rfl, trivial⟩ ?_))
  clear hK5; rintro E ⟨g18, g19, g20, g21, g22, -⟩
  refine seq fun K23 hK23 => ?_
  refine seq fun K24 hK24 => ?_
  refine reg ?_
  refine s_y (y_move (v := (Vp g.tb 0)) g18) rfl ?_
  have hf25 := (BibIs.k0 (BibIs.k0 (BibIs.k0 h hk8) hk12) hk16)
  refine s_e (e_call ca49 (args := [(Vp g.tb 0)]) rfl (bnone_spec hf25)) rfl ?_
  rintro _ w26 ⟨rfl, hk27⟩
  have ka28 := (Kp.then0 ka17 hk27)
  refine s_nil (hK24 _ _ (genC [(0, (Vp g.tb 0)), (1, (Vi 17)), (6, (Vp w.heap.size 0)), (7, (Vp w6.heap.size 0)), (8, (Vp w10.heap.size 0)), (16, Vf)] ⟨g18, g19, g20, g21, g22, rfl, trivial⟩ ?_))
  clear hK24; rintro E ⟨g29, g30, g31, g32, g33, g34, -⟩
  refine cond_f g34 ?_
  refine skip (hK23 _ _ (genC [(0, (Vp g.tb 0)), (1, (Vi 17)), (6, (Vp w.heap.size 0)), (7, (Vp w6.heap.size 0)), (8, (Vp w10.heap.size 0))] ⟨g29, g30, g31, g32, g33, trivial⟩ ?_))
  clear hK23; rintro E ⟨g35, g36, g37, g38, g39, -⟩
  refine seq fun K40 hK40 => ?_
  refine reg ?_
  refine s_y (y_move (v := (Vi 17)) g36) rfl ?_
  refine s_e (e_call ca51 (args := [(Vi 17)]) rfl (kind_spec 17 _)) rfl ?_
  rintro _ w41 ⟨rfl, hk42⟩
  have ka43 := (Kp.then0 ka28 hk42)
  refine s_y (y_assign (v := (Vi 2)) rfl) rfl ?_
  refine s_nil (hK40 _ _ (genC [(0, (Vp g.tb 0)), (1, (Vi 17)), (6, (Vp w.heap.size 0)), (7, (Vp w6.heap.size 0)), (8, (Vp w10.heap.size 0)), (10, (Vi 2))] ⟨g35, g36, g37, g38, g39, rfl, trivial⟩ ?_))
  clear hK40; rintro E ⟨g44, g45, g46, g47, g48, g49, -⟩
  refine seq fun K50 hK50 => ?_
  refine block ?_
  refine seq fun K51 hK51 => ?_
  refine reg ?_
  refine s_y (y_move (v := (Vi 2)) g49) rfl ?_
  refine s_y (y_lss rfl rfl) rfl ?_
  refine s_y (y_assign (v := Vf) rfl) rfl ?_
  refine s_nil (hK51 _ _ (genC [(0, (Vp g.tb 0)), (1, (Vi 17)), (6, (Vp w.heap.size 0)), (7, (Vp w6.heap.size 0)), (8, (Vp w10.heap.size 0)), (10, (Vi 2)), (20, Vf)] ⟨g44, g45, g46, g47, g48, g49, rfl, trivial⟩ ?_))
  clear hK51; rintro E ⟨g52, g53, g54, g55, g56, g57, g58, -⟩
  refine cond_f g58 ?_
  refine seq fun K59 hK59 => ?_
  refine regD (fun _ => False) (.take 0 (.take 1 (.one 2 (.take 3 (.take 4 (.take 5 (.take 6 (.one 7 (.take 8 (.take 9 (.take 10 (.take 11 (.take 12 (.take 13 (.take 14 (.take 15 (.take 16 (.take 17 (.take 18 (.one 19 (.take 20 (.take 21 (.take 22 .done))))))))))))))))))))))) mixed (by kernel_rfl) fun w60 hh61 hk62 => ?_
  have ka63 := (Kp.then0 ka43 hk62)
  refine o_y rfl (y_fld fo32_1 g54) ?_
  refine o_y rfl (y_load (v := (Vi (t.port))) rfl (rd_sc sc3 (On.kp (hk62.get0 (hk42.get0 (hk27.get0 (hk16.get0 (hk12.get0 hb7))))) id) rfl)) ?_
  refine o_one ?_
  refine c_e rfl (e_call ca53 (args := [(Vi (t.port))]) rfl (bport_spec t.port _)) ?_
  rintro _ w64 ⟨rfl, hk65⟩
  have ka66 := (Kp.then0 ka63 hk65)
  have ks67 : Kp (fun _ => False) w60 w64 := (Kp.then0 (Kp.refl _ _) hk65)
  refine ⟨ks67, ?_⟩
  refine o_y rfl (y_notd rfl) ?_
  refine o_y rfl (y_move (v := (.bool (decide (¬ (isPort t.port))))) rfl) ?_
  by_cases c68 : ¬ (isPort t.port)
  · refine o_no rfl (.no rfl (c := true) (congrArg Value.bool (decide_eq_true c68)) rfl) ?_
    refine o_no rfl (.no rfl (c := true) (congrArg Value.bool (decide_eq_true c68)) rfl) ?_
    refine o_one ?_
    refine c_no rfl (.no rfl (c := true) (congrArg Value.bool (decide_eq_true c68)) rfl) ks67 ?_
    refine o_no rfl (.no rfl (c := true) (congrArg Value.bool (decide_eq_true c68)) rfl) ?_
    refine o_y rfl (y_pick_t (congrArg Value.bool (decide_eq_true c68)) (v := Vt) rfl) ?_
    refine o_y rfl (y_move (v := Vt) rfl) ?_
    refine o_no rfl (.no rfl (c := true) rfl rfl) ?_
    refine o_no rfl (.no rfl (c := true) rfl rfl) ?_
    refine o_no rfl (.no rfl (c := true) rfl rfl) ?_
    refine o_no rfl (.no rfl (c := true) rfl rfl) ?_
    refine o_no rfl (.no rfl (c := true) rfl rfl) ?_
    refine o_no rfl (.no rfl (c := true) rfl rfl) ?_
    refine o_no rfl (.no rfl (c := true) rfl rfl) ?_
    refine o_no rfl (.no rfl (c := true) rfl rfl) ?_
    refine o_one ?_
    refine c_no rfl (.no rfl (c := true) rfl rfl) ks67 ?_
    refine o_no rfl (.no rfl (c := true) rfl rfl) ?_
    refine o_y rfl (y_pick_t rfl (v := Vt) rfl) ?_
    refine o_y rfl (y_assign (v := Vt) rfl) ?_
    refine o_done (hK59 _ _ (genC [(0, (Vp g.tb 0)), (1, (Vi 17)), (6, (Vp w.heap.size 0)), (7, (Vp w6.heap.size 0)), (8, (Vp w10.heap.size 0)), (10, (Vi 2)), (24, Vt)] ⟨g52, g53, g54, g55, g56, g57, rfl, trivial⟩ ?_))
    clear hK59; rintro E ⟨g69, g70, g71, g72, g73, g74, g75, -⟩
    refine cond_t g75 ?_
    refine seq fun K76 hK76 => ?_
    refine reg ?_
    refine s_y (y_build (vs := []) (v := (.agg zBc.toArray)) rfl (fun _ => by kernel_rfl)) rfl ?_
    have hb77 := (hk65.get0 (hk62.get0 (hk42.get0 (hk27.get0 hb15))))
    refine s_e0 (e_storeV (cs' := zBc.toArray) zBc g73 (v := (.agg zBc.toArray)) rfl rfl sz36 hb77 rfl rfl rfl) ?_
    rintro _ w78 ⟨hb79, hk80⟩
    have ka81 := (Kp.fresh ka66 hk80 fun _ e => nl (nl (nl hk8.size hk12.size) (Nat.le_refl _)) (Nat.le_of_eq e.symm))
    refine s_y (y_assign (v := (Vi 1)) rfl) rfl ?_
    refine s_nil (hK76 _ _ (genC [(8, (Vp w10.heap.size 0)), (9, (Vi 1))] ⟨g73, rfl, trivial⟩ ?_))
    clear hK76; rintro E ⟨g82, g83, -⟩
    refine ret (hret _ _ [(bv (⟨0, 0, (⟨(⟨0, 0, 0, 0, 0, 0, 0, 0, 0, 0, 0, 0, 0, 0, 0, 0⟩ : V6), 0⟩ : T6), (⟨(⟨0, 0, 0, 0⟩ : V4), 0⟩ : T4), false, 0⟩ : Binding)), (Vi 1)] ⟨⟨_, g82, (rd_agg (vs := zBc) ag36 (On.now hb79) (by kernel_rfl) rfl)⟩, g83, trivial⟩ ?_)
    have hf84 := (BibIs.kp (BibIs.k0 (BibIs.k0 (BibIs.k0 (BibIs.k0 hf25 hk27) hk42) hk62) hk65) hk80 (fun b hb => (fun e => (fun hb => Nat.lt_irrefl _ (nt (BibIs.lt h _ hb) (nl (nl hk8.size hk12.size) (Nat.le_refl _)))) (e ▸ hb))) (Nat.ne_of_lt (nt (nt (hT0.lt) (nl hk8.size hk12.size)) (Nat.le_refl _))))
    have hbe : bindE g st 2 17 t u = 1 := by grind [bindE, owns]
    have hbn : bindE g st 2 17 t u ≠ 0 := by rw [hbe]; first | decide | assumption
    exact ⟨.inl ⟨hbn, by rw [hbe]; rfl, hf84⟩, ka81⟩
  · refine o_gy rfl (.yes rfl (congrArg Value.bool (decide_eq_false c68))) (y_fld fo34_1 g55) ?_
    refine o_gy rfl (.yes rfl (congrArg Value.bool (decide_eq_false c68))) (y_load (v := (Vi (u.port))) rfl (rd_sc sc3 (On.kp (hk62.get0 (hk42.get0 (hk27.get0 (hk16.get0 hb11)))) id) rfl)) ?_
    refine o_one ?_
    refine c_ge rfl (.yes rfl (congrArg Value.bool (decide_eq_false c68))) (e_call ca53 (args := [(Vi (u.port))]) rfl (bport_spec u.port _)) ?_
    rintro _ w85 ⟨rfl, hk86⟩
    have ka87 := (Kp.then0 ka66 hk86)
    have ks88 := (Kp.then0 ks67 hk86)
    refine ⟨ks88, ?_⟩
    refine o_gy rfl (.yes rfl (congrArg Value.bool (decide_eq_false c68))) (y_notd rfl) ?_
    refine o_y rfl (y_pick_f (congrArg Value.bool (decide_eq_false c68)) (v := (.bool (decide (¬ (isPort u.port))))) rfl) ?_
    refine o_y rfl (y_move (v := (.bool (decide (¬ (isPort u.port))))) rfl) ?_
    by_cases c89 : ¬ (isPort u.port)
    · refine o_no rfl (.no rfl (c := true) (congrArg Value.bool (decide_eq_true c89)) rfl) ?_
      refine o_no rfl (.no rfl (c := true) (congrArg Value.bool (decide_eq_true c89)) rfl) ?_
      refine o_no rfl (.no rfl (c := true) (congrArg Value.bool (decide_eq_true c89)) rfl) ?_
      refine o_no rfl (.no rfl (c := true) (congrArg Value.bool (decide_eq_true c89)) rfl) ?_
      refine o_no rfl (.no rfl (c := true) (congrArg Value.bool (decide_eq_true c89)) rfl) ?_
      refine o_no rfl (.no rfl (c := true) (congrArg Value.bool (decide_eq_true c89)) rfl) ?_
      refine o_no rfl (.no rfl (c := true) (congrArg Value.bool (decide_eq_true c89)) rfl) ?_
      refine o_no rfl (.no rfl (c := true) (congrArg Value.bool (decide_eq_true c89)) rfl) ?_
      refine o_one ?_
      refine c_no rfl (.no rfl (c := true) (congrArg Value.bool (decide_eq_true c89)) rfl) ks88 ?_
      refine o_no rfl (.no rfl (c := true) (congrArg Value.bool (decide_eq_true c89)) rfl) ?_
      refine o_y rfl (y_pick_t (congrArg Value.bool (decide_eq_true c89)) (v := Vt) rfl) ?_
      refine o_y rfl (y_assign (v := Vt) rfl) ?_
      refine o_done (hK59 _ _ (genC [(0, (Vp g.tb 0)), (1, (Vi 17)), (6, (Vp w.heap.size 0)), (7, (Vp w6.heap.size 0)), (8, (Vp w10.heap.size 0)), (10, (Vi 2)), (24, Vt)] ⟨g52, g53, g54, g55, g56, g57, rfl, trivial⟩ ?_))
      clear hK59; rintro E ⟨g90, g91, g92, g93, g94, g95, g96, -⟩
      refine cond_t g96 ?_
      refine seq fun K97 hK97 => ?_
      refine reg ?_
      refine s_y (y_build (vs := []) (v := (.agg zBc.toArray)) rfl (fun _ => by kernel_rfl)) rfl ?_
      have hb98 := (hk86.get0 (hk65.get0 (hk62.get0 (hk42.get0 (hk27.get0 hb15)))))
      refine s_e0 (e_storeV (cs' := zBc.toArray) zBc g94 (v := (.agg zBc.toArray)) rfl rfl sz36 hb98 rfl rfl rfl) ?_
      rintro _ w99 ⟨hb100, hk101⟩
      have ka102 := (Kp.fresh ka87 hk101 fun _ e => nl (nl (nl hk8.size hk12.size) (Nat.le_refl _)) (Nat.le_of_eq e.symm))
      refine s_y (y_assign (v := (Vi 1)) rfl) rfl ?_
      refine s_nil (hK97 _ _ (genC [(8, (Vp w10.heap.size 0)), (9, (Vi 1))] ⟨g94, rfl, trivial⟩ ?_))
      clear hK97; rintro E ⟨g103, g104, -⟩
      refine ret (hret _ _ [(bv (⟨0, 0, (⟨(⟨0, 0, 0, 0, 0, 0, 0, 0, 0, 0, 0, 0, 0, 0, 0, 0⟩ : V6), 0⟩ : T6), (⟨(⟨0, 0, 0, 0⟩ : V4), 0⟩ : T4), false, 0⟩ : Binding)), (Vi 1)] ⟨⟨_, g103, (rd_agg (vs := zBc) ag36 (On.now hb100) (by kernel_rfl) rfl)⟩, g104, trivial⟩ ?_)
      have hf105 := (BibIs.kp (BibIs.k0 (BibIs.k0 (BibIs.k0 (BibIs.k0 (BibIs.k0 hf25 hk27) hk42) hk62) hk65) hk86) hk101 (fun b hb => (fun e => (fun hb => Nat.lt_irrefl _ (nt (BibIs.lt h _ hb) (nl (nl hk8.size hk12.size) (Nat.le_refl _)))) (e ▸ hb))) (Nat.ne_of_lt (nt (nt (hT0.lt) (nl hk8.size hk12.size)) (Nat.le_refl _))))
      have hbe : bindE g st 2 17 t u = 1 := by grind [bindE, owns]
      have hbn : bindE g st 2 17 t u ≠ 0 := by rw [hbe]; first | decide | assumption
      exact ⟨.inl ⟨hbn, by rw [hbe]; rfl, hf105⟩, ka102⟩
    · refine o_gy rfl (.yes rfl (congrArg Value.bool (decide_eq_false c89))) (y_move (v := (Vp g.tb 0)) g52) ?_
      refine o_gy rfl (.yes rfl (congrArg Value.bool (decide_eq_false c89))) (y_move (v := (Vi 2)) g57) ?_
      refine o_gy rfl (.yes rfl (congrArg Value.bool (decide_eq_false c89))) (y_nil rfl) ?_
      refine o_gy rfl (.yes rfl (congrArg Value.bool (decide_eq_false c89))) (y_fld fo95_6 rfl) ?_
      refine o_gy rfl (.yes rfl (congrArg Value.bool (decide_eq_false c89))) (y_idxA ao93 sz92 rfl (i := 2) rfl (by omega)) ?_
      refine o_gy rfl (.yes rfl (congrArg Value.bool (decide_eq_false c89))) (y_load (v := (Vp ((g.p 2).pb) 0)) rfl (rd_sc sc92 (On.kp (hk62.get0 (hk42.get0 (hk27.get0 (hk16.get0 (hk12.get0 (hk8.get0 hb0)))))) id) rfl)) ?_
      refine o_gy rfl (.yes rfl (congrArg Value.bool (decide_eq_false c89))) (y_fld fo34_0 g55) ?_
      refine o_gy rfl (.yes rfl (congrArg Value.bool (decide_eq_false c89))) (y_load (v := (v4 u.addr)) rfl (rd_agg (vs := [(u8 u.addr.a), (u8 u.addr.b), (u8 u.addr.c), (u8 u.addr.d)]) ag27 (On.kp (hk62.get0 (hk42.get0 (hk27.get0 (hk16.get0 hb11)))) id) (by kernel_rfl) rfl)) ?_
      refine o_one ?_
      have hf106 := (BibIs.k0 (BibIs.k0 (BibIs.k0 (BibIs.k0 (BibIs.k0 hf25 hk27) hk42) hk62) hk65) hk86)
      refine c_ge rfl (.yes rfl (congrArg Value.bool (decide_eq_false c89))) (e_call ca54 (args := [(Vp ((g.p 2).pb) 0), (v4 u.addr)]) rfl (has_spec (BibIs.pool hf106 2 (by omega)) (ok.pool 2 (by omega)) u.addr)) ?_
      rintro _ w107 ⟨rfl, hk108⟩
      have ka109 := (Kp.then0 ka87 hk108)
      have ks110 := (Kp.then0 ks88 hk108)
      refine ⟨ks110, ?_⟩
      refine o_gy rfl (.yes rfl (congrArg Value.bool (decide_eq_false c89))) (y_notd rfl) ?_
      refine o_y rfl (y_pick_f (congrArg Value.bool (decide_eq_false c89)) (v := (.bool (decide (¬ (u.addr ∈ (g.p 2).l))))) rfl) ?_
      refine o_y rfl (y_assign (v := (.bool (decide (¬ (u.addr ∈ (g.p 2).l))))) rfl) ?_
      refine o_done (hK59 _ _ (genC [(0, (Vp g.tb 0)), (1, (Vi 17)), (6, (Vp w.heap.size 0)), (7, (Vp w6.heap.size 0)), (8, (Vp w10.heap.size 0)), (10, (Vi 2)), (24, (.bool (decide (¬ (u.addr ∈ (g.p 2).l)))))] ⟨g52, g53, g54, g55, g56, g57, rfl, trivial⟩ ?_))
      clear hK59; rintro E ⟨g111, g112, g113, g114, g115, g116, g117, -⟩
      refine cond_d g117 (fun c118 => ?_) (fun c118 => ?_)
      · refine seq fun K119 hK119 => ?_
        refine reg ?_
        refine s_y (y_build (vs := []) (v := (.agg zBc.toArray)) rfl (fun _ => by kernel_rfl)) rfl ?_
        have hb120 := (hk108.get0 (hk86.get0 (hk65.get0 (hk62.get0 (hk42.get0 (hk27.get0 hb15))))))
        refine s_e0 (e_storeV (cs' := zBc.toArray) zBc g115 (v := (.agg zBc.toArray)) rfl rfl sz36 hb120 rfl rfl rfl) ?_
        rintro _ w121 ⟨hb122, hk123⟩
        have ka124 := (Kp.fresh ka109 hk123 fun _ e => nl (nl (nl hk8.size hk12.size) (Nat.le_refl _)) (Nat.le_of_eq e.symm))
        refine s_y (y_assign (v := (Vi 1)) rfl) rfl ?_
        refine s_nil (hK119 _ _ (genC [(8, (Vp w10.heap.size 0)), (9, (Vi 1))] ⟨g115, rfl, trivial⟩ ?_))
        clear hK119; rintro E ⟨g125, g126, -⟩
        refine ret (hret _ _ [(bv (⟨0, 0, (⟨(⟨0, 0, 0, 0, 0, 0, 0, 0, 0, 0, 0, 0, 0, 0, 0, 0⟩ : V6), 0⟩ : T6), (⟨(⟨0, 0, 0, 0⟩ : V4), 0⟩ : T4), false, 0⟩ : Binding)), (Vi 1)] ⟨⟨_, g125, (rd_agg (vs := zBc) ag36 (On.now hb122) (by kernel_rfl) rfl)⟩, g126, trivial⟩ ?_)
        have hf127 := (BibIs.kp (BibIs.k0 hf106 hk108) hk123 (fun b hb => (fun e => (fun hb => Nat.lt_irrefl _ (nt (BibIs.lt h _ hb) (nl (nl hk8.size hk12.size) (Nat.le_refl _)))) (e ▸ hb))) (Nat.ne_of_lt (nt (nt (hT0.lt) (nl hk8.size hk12.size)) (Nat.le_refl _))))
        have hbe : bindE g st 2 17 t u = 1 := by grind [bindE, owns]
        have hbn : bindE g st 2 17 t u ≠ 0 := by rw [hbe]; first | decide | assumption
        exact ⟨.inl ⟨hbn, by rw [hbe]; rfl, hf127⟩, ka124⟩
      · refine skip (hK50 _ _ (genC [(0, (Vp g.tb 0)), (1, (Vi 17)), (6, (Vp w.heap.size 0)), (7, (Vp w6.heap.size 0)), (8, (Vp w10.heap.size 0)), (10, (Vi 2))] ⟨g111, g112, g113, g114, g115, g116, trivial⟩ ?_))
        clear hK50; rintro E ⟨g128, g129, g130, g131, g132, g133, -⟩
        refine seq fun K134 hK134 => ?_
        refine seq fun K135 hK135 => ?_
        refine regD (fun _ => False) (.take 0 (.take 1 (.take 2 (.take 3 (.take 4 (.take 5 (.take 6 (.one 7 (.take 8 (.take 9 (.take 10 (.take 11 (.take 12 .done))))))))))))) mixed (by kernel_rfl) fun w136 hh137 hk138 => ?_
        have ka139 := (Kp.then0 ka109 hk138)
        refine o_y rfl (y_move (v := (Vp g.tb 0)) g128) ?_
        refine o_y rfl (y_move (v := (Vi 2)) g133) ?_
        refine o_y rfl (y_nil rfl) ?_
        refine o_y rfl (y_fld fo95_6 rfl) ?_
        refine o_y rfl (y_idxA ao93 sz92 rfl (i := 2) rfl (by omega)) ?_
        refine o_y rfl (y_load (v := (Vp ((g.p 2).pb) 0)) rfl (rd_sc sc92 (On.kp (hk138.get0 (hk108.get0 (hk86.get0 (hk65.get0 (hk62.get0 (hk42.get0 (hk27.get0 (hk16.get0 (hk12.get0 (hk8.get0 hb0)))))))))) id) rfl)) ?_
        refine o_y rfl (y_load (v := (t4 u)) g131 (rd_agg (vs := u.cs) ag34 (On.kp (hk138.get0 (hk108.get0 (hk86.get0 (hk65.get0 (hk62.get0 (hk42.get0 (hk27.get0 (hk16.get0 hb11)))))))) id) (by kernel_rfl) rfl)) ?_
        refine o_one ?_
        have hf140 := (BibIs.k0 (BibIs.k0 hf106 hk108) hk138)
        refine c_e rfl (e_call ca55 (args := [(Vp ((g.p 2).pb) 0), (t4 u)]) rfl (is_spec (BibIs.pool hf140 2 (by omega)) (ok.pool 2 (by omega)) u hu)) ?_
        rintro _ w141 ⟨rfl, hk142⟩
        have ka143 := (Kp.then0 ka139 hk142)
        have ks144 : Kp (fun _ => False) w136 w141 := (Kp.then0 (Kp.refl _ _) hk142)
        refine ⟨ks144, ?_⟩
        refine o_y rfl (y_move (v := (.tuple #[(.bool (decide (owns (g.p 2).l u ∧ aget (st.h 2) u = some false))), (.bool (decide (owns (g.p 2).l u ∧ aget (st.h 2) u = some true)))])) rfl) ?_
        refine o_y rfl (y_ext rfl (v := (.bool (decide (owns (g.p 2).l u ∧ aget (st.h 2) u = some false)))) rfl) ?_
        refine o_y rfl (y_ext rfl (v := (.bool (decide (owns (g.p 2).l u ∧ aget (st.h 2) u = some true)))) rfl) ?_
        refine o_y rfl (y_assign (v := (.bool (decide (owns (g.p 2).l u ∧ aget (st.h 2) u = some false)))) rfl) ?_
        refine o_y rfl (y_assign (v := (.bool (decide (owns (g.p 2).l u ∧ aget (st.h 2) u = some true)))) rfl) ?_
        refine o_done (hK135 _ _ (genC [(0, (Vp g.tb 0)), (1, (Vi 17)), (6, (Vp w.heap.size 0)), (7, (Vp w6.heap.size 0)), (8, (Vp w10.heap.size 0)), (10, (Vi 2)), (11, (.bool (decide (owns (g.p 2).l u ∧ aget (st.h 2) u = some false)))), (12, (.bool (decide (owns (g.p 2).l u ∧ aget (st.h 2) u = some true))))] ⟨g128, g129, g130, g131, g132, g133, rfl, rfl, trivial⟩ ?_))
        clear hK135; rintro E ⟨g145, g146, g147, g148, g149, g150, g151, g152, -⟩
        refine seq fun K153 hK153 => ?_
        refine reg ?_
        refine s_y (y_move (v := (.bool (decide (owns (g.p 2).l u ∧ aget (st.h 2) u = some false)))) g151) rfl ?_
        refine s_y (y_move (v := (.bool (decide (owns (g.p 2).l u ∧ aget (st.h 2) u = some false)))) rfl) rfl ?_
        by_cases c154 : owns (g.p 2).l u ∧ aget (st.h 2) u = some false
        · refine s_no (.no rfl (c := true) (congrArg Value.bool (decide_eq_true c154)) rfl) rfl ?_
          refine s_y (y_pick_t (congrArg Value.bool (decide_eq_true c154)) (v := Vt) rfl) rfl ?_
          refine s_nil (hK153 _ _ (genC [(0, (Vp g.tb 0)), (1, (Vi 17)), (6, (Vp w.heap.size 0)), (7, (Vp w6.heap.size 0)), (8, (Vp w10.heap.size 0)), (10, (Vi 2)), (62, Vt)] ⟨g145, g146, g147, g148, g149, g150, rfl, trivial⟩ ?_))
          clear hK153; rintro E ⟨g155, g156, g157, g158, g159, g160, g161, -⟩
          refine cond_t g161 ?_
          refine seq fun K162 hK162 => ?_
          refine reg ?_
          refine s_y (y_build (vs := []) (v := (.agg zBc.toArray)) rfl (fun _ => by kernel_rfl)) rfl ?_
          have hb163 := (hk142.get0 (hk138.get0 (hk108.get0 (hk86.get0 (hk65.get0 (hk62.get0 (hk42.get0 (hk27.get0 hb15))))))))
          refine s_e0 (e_storeV (cs' := zBc.toArray) zBc g159 (v := (.agg zBc.toArray)) rfl rfl sz36 hb163 rfl rfl rfl) ?_
          rintro _ w164 ⟨hb165, hk166⟩
          have ka167 := (Kp.fresh ka143 hk166 fun _ e => nl (nl (nl hk8.size hk12.size) (Nat.le_refl _)) (Nat.le_of_eq e.symm))
          refine s_y (y_assign (v := (Vi 5)) rfl) rfl ?_
          refine s_nil (hK162 _ _ (genC [(8, (Vp w10.heap.size 0)), (9, (Vi 5))] ⟨g159, rfl, trivial⟩ ?_))
          clear hK162; rintro E ⟨g168, g169, -⟩
          refine ret (hret _ _ [(bv (⟨0, 0, (⟨(⟨0, 0, 0, 0, 0, 0, 0, 0, 0, 0, 0, 0, 0, 0, 0, 0⟩ : V6), 0⟩ : T6), (⟨(⟨0, 0, 0, 0⟩ : V4), 0⟩ : T4), false, 0⟩ : Binding)), (Vi 5)] ⟨⟨_, g168, (rd_agg (vs := zBc) ag36 (On.now hb165) (by kernel_rfl) rfl)⟩, g169, trivial⟩ ?_)
          have hf170 := (BibIs.kp (BibIs.k0 hf140 hk142) hk166 (fun b hb => (fun e => (fun hb => Nat.lt_irrefl _ (nt (BibIs.lt h _ hb) (nl (nl hk8.size hk12.size) (Nat.le_refl _)))) (e ▸ hb))) (Nat.ne_of_lt (nt (nt (hT0.lt) (nl hk8.size hk12.size)) (Nat.le_refl _))))
          have hbe : bindE g st 2 17 t u = 5 := by grind [bindE, owns]
          have hbn : bindE g st 2 17 t u ≠ 0 := by rw [hbe]; first | decide | assumption
          exact ⟨.inl ⟨hbn, by rw [hbe]; rfl, hf170⟩, ka167⟩
        · refine s_gy (.yes rfl (congrArg Value.bool (decide_eq_false c154))) (y_move (v := (.bool (decide (owns (g.p 2).l u ∧ aget (st.h 2) u = some true)))) g152) rfl ?_
          refine s_y (y_pick_f (congrArg Value.bool (decide_eq_false c154)) (v := (.bool (decide (owns (g.p 2).l u ∧ aget (st.h 2) u = some true)))) rfl) rfl ?_
          refine s_nil (hK153 _ _ (genC [(0, (Vp g.tb 0)), (1, (Vi 17)), (6, (Vp w.heap.size 0)), (7, (Vp w6.heap.size 0)), (8, (Vp w10.heap.size 0)), (10, (Vi 2)), (62, (.bool (decide (owns (g.p 2).l u ∧ aget (st.h 2) u = some true))))] ⟨g145, g146, g147, g148, g149, g150, rfl, trivial⟩ ?_))
          clear hK153; rintro E ⟨g171, g172, g173, g174, g175, g176, g177, -⟩
          refine cond_d g177 (fun c178 => ?_) (fun c178 => ?_)
          · refine seq fun K179 hK179 => ?_
            refine reg ?_
            refine s_y (y_build (vs := []) (v := (.agg zBc.toArray)) rfl (fun _ => by kernel_rfl)) rfl ?_
            have hb180 := (hk142.get0 (hk138.get0 (hk108.get0 (hk86.get0 (hk65.get0 (hk62.get0 (hk42.get0 (hk27.get0 hb15))))))))
            refine s_e0 (e_storeV (cs' := zBc.toArray) zBc g175 (v := (.agg zBc.toArray)) rfl rfl sz36 hb180 rfl rfl rfl) ?_
            rintro _ w181 ⟨hb182, hk183⟩
            have ka184 := (Kp.fresh ka143 hk183 fun _ e => nl (nl (nl hk8.size hk12.size) (Nat.le_refl _)) (Nat.le_of_eq e.symm))
            refine s_y (y_assign (v := (Vi 5)) rfl) rfl ?_
            refine s_nil (hK179 _ _ (genC [(8, (Vp w10.heap.size 0)), (9, (Vi 5))] ⟨g175, rfl, trivial⟩ ?_))
            clear hK179; rintro E ⟨g185, g186, -⟩
            refine ret (hret _ _ [(bv (⟨0, 0, (⟨(⟨0, 0, 0, 0, 0, 0, 0, 0, 0, 0, 0, 0, 0, 0, 0, 0⟩ : V6), 0⟩ : T6), (⟨(⟨0, 0, 0, 0⟩ : V4), 0⟩ : T4), false, 0⟩ : Binding)), (Vi 5)] ⟨⟨_, g185, (rd_agg (vs := zBc) ag36 (On.now hb182) (by kernel_rfl) rfl)⟩, g186, trivial⟩ ?_)
            have hf187 := (BibIs.kp (BibIs.k0 hf140 hk142) hk183 (fun b hb => (fun e => (fun hb => Nat.lt_irrefl _ (nt (BibIs.lt h _ hb) (nl (nl hk8.size hk12.size) (Nat.le_refl _)))) (e ▸ hb))) (Nat.ne_of_lt (nt (nt (hT0.lt) (nl hk8.size hk12.size)) (Nat.le_refl _))))
            have hbe : bindE g st 2 17 t u = 5 := by grind [bindE, owns]
            have hbn : bindE g st 2 17 t u ≠ 0 := by rw [hbe]; first | decide | assumption
            exact ⟨.inl ⟨hbn, by rw [hbe]; rfl, hf187⟩, ka184⟩
          · refine skip (hK134 _ _ (genC [(0, (Vp g.tb 0)), (1, (Vi 17)), (6, (Vp w.heap.size 0)), (7, (Vp w6.heap.size 0)), (8, (Vp w10.heap.size 0)), (10, (Vi 2))] ⟨g171, g172, g173, g174, g175, g176, trivial⟩ ?_))
            clear hK134; rintro E ⟨g188, g189, g190, g191, g192, g193, -⟩
            refine seq fun K194 hK194 => ?_
            refine seq fun K195 hK195 => ?_
            refine reg ?_
            refine s_y (y_move (v := (Vp g.tb 0)) g188) rfl ?_
            refine s_y (y_move (v := (Vi 17)) g189) rfl ?_
            have hb196 := (hk142.get0 (hk138.get0 (hk108.get0 (hk86.get0 (hk65.get0 (hk62.get0 (hk42.get0 (hk27.get0 (hk16.get0 (hk12.get0 hb7))))))))))
            refine s_y (y_load (v := (t6 t)) g190 (rd_agg (vs := t.cs) ag32 (On.now hb196) (by kernel_rfl) rfl)) rfl ?_
            have hf197 := (BibIs.k0 hf140 hk142)
            refine s_e (e_call ca46 (args := [(Vp g.tb 0), (Vi 17), (t6 t)]) rfl (mayb_spec ok hf197 17 t (by omega) (by omega))) rfl ?_
            rintro _ w198 ⟨rfl, hk199⟩
            have ka200 := (Kp.then0 ka143 hk199)
            refine s_y (y_assign (v := (Vi ((mayE g st 17 t)))) rfl) rfl ?_
            refine s_nil (hK195 _ _ (genC [(0, (Vp g.tb 0)), (1, (Vi 17)), (6, (Vp w.heap.size 0)), (7, (Vp w6.heap.size 0)), (8, (Vp w10.heap.size 0)), (10, (Vi 2)), (13, (Vi ((mayE g st 17 t))))] ⟨g188, g189, g190, g191, g192, g193, rfl, trivial⟩ ?_))
            clear hK195; rintro E ⟨g201, g202, g203, g204, g205, g206, g207, -⟩
            refine seq fun K208 hK208 => ?_
            refine reg ?_
            refine s_y (y_move (v := (Vi ((mayE g st 17 t)))) g207) rfl ?_
            refine s_y (y_neq rfl rfl) rfl ?_
            refine s_nil (hK208 _ _ (genC [(0, (Vp g.tb 0)), (1, (Vi 17)), (6, (Vp w.heap.size 0)), (7, (Vp w6.heap.size 0)), (8, (Vp w10.heap.size 0)), (10, (Vi 2)), (13, (Vi ((mayE g st 17 t)))), (69, (.bool (decide (((mayE g st 17 t) : Int) ≠ 0))))] ⟨g201, g202, g203, g204, g205, g206, g207, rfl, trivial⟩ ?_))
            clear hK208; rintro E ⟨g209, g210, g211, g212, g213, g214, g215, g216, -⟩
            refine cond_d g216 (fun c217 => ?_) (fun c217 => ?_)
            · refine seq fun K218 hK218 => ?_
              refine reg ?_
              refine s_y (y_build (vs := []) (v := (.agg zBc.toArray)) rfl (fun _ => by kernel_rfl)) rfl ?_
              refine s_y (y_move (v := (Vi ((mayE g st 17 t)))) g215) rfl ?_
              have hb219 := (hk199.get0 (hk142.get0 (hk138.get0 (hk108.get0 (hk86.get0 (hk65.get0 (hk62.get0 (hk42.get0 (hk27.get0 hb15)))))))))
              refine s_e0 (e_storeV (cs' := zBc.toArray) zBc g213 (v := (.agg zBc.toArray)) rfl rfl sz36 hb219 rfl rfl rfl) ?_
              rintro _ w220 ⟨hb221, hk222⟩
              have ka223 := (Kp.fresh ka200 hk222 fun _ e => nl (nl (nl hk8.size hk12.size) (Nat.le_refl _)) (Nat.le_of_eq e.symm))
              refine s_y (y_assign (v := (Vi ((mayE g st 17 t)))) rfl) rfl ?_
              refine s_nil (hK218 _ _ (genC [(8, (Vp w10.heap.size 0)), (9, (Vi ((mayE g st 17 t))))] ⟨g213, rfl, trivial⟩ ?_))
              clear hK218; rintro E ⟨g224, g225, -⟩
              refine ret (hret _ _ [(bv (⟨0, 0, (⟨(⟨0, 0, 0, 0, 0, 0, 0, 0, 0, 0, 0, 0, 0, 0, 0, 0⟩ : V6), 0⟩ : T6), (⟨(⟨0, 0, 0, 0⟩ : V4), 0⟩ : T4), false, 0⟩ : Binding)), (Vi ((mayE g st 17 t)))] ⟨⟨_, g224, (rd_agg (vs := zBc) ag36 (On.now hb221) (by kernel_rfl) rfl)⟩, g225, trivial⟩ ?_)
              have hf226 := (BibIs.kp (BibIs.k0 hf197 hk199) hk222 (fun b hb => (fun e => (fun hb => Nat.lt_irrefl _ (nt (BibIs.lt h _ hb) (nl (nl hk8.size hk12.size) (Nat.le_refl _)))) (e ▸ hb))) (Nat.ne_of_lt (nt (nt (hT0.lt) (nl hk8.size hk12.size)) (Nat.le_refl _))))
              have hbe : bindE g st 2 17 t u = (mayE g st 17 t) := bindE_may (by assumption) (by assumption) (by assumption) (by assumption) (by assumption)
              have hbn : bindE g st 2 17 t u ≠ 0 := by rw [hbe]; first | decide | assumption
              exact ⟨.inl ⟨hbn, by rw [hbe]; rfl, hf226⟩, ka223⟩
            · refine skip (hK194 _ _ (genC [(0, (Vp g.tb 0)), (1, (Vi 17)), (6, (Vp w.heap.size 0)), (7, (Vp w6.heap.size 0)), (8, (Vp w10.heap.size 0)), (10, (Vi 2))] ⟨g209, g210, g211, g212, g213, g214, trivial⟩ ?_))
              clear hK194; rintro E ⟨g227, g228, g229, g230, g231, g232, -⟩
              refine seq fun K233 hK233 => ?_
              refine seq fun K234 hK234 => ?_
              refine regD (· = (g.p 2).mb) (.take 0 (.take 1 (.take 2 (.take 3 (.take 4 (.take 5 (.take 6 (.one 7 (.take 8 .done))))))))) mixed (by kernel_rfl) fun w235 hh236 hk237 => ?_
              have ka238 := (Kp.then0 ka200 hk237)
              refine o_y rfl (y_move (v := (Vp g.tb 0)) g227) ?_
              refine o_y rfl (y_move (v := (Vi 2)) g232) ?_
              refine o_y rfl (y_nil rfl) ?_
              refine o_y rfl (y_fld fo95_6 rfl) ?_
              refine o_y rfl (y_idxA ao93 sz92 rfl (i := 2) rfl (by omega)) ?_
              refine o_y rfl (y_load (v := (Vp ((g.p 2).pb) 0)) rfl (rd_sc sc92 (On.kp (hk237.get0 (hk199.get0 (hk142.get0 (hk138.get0 (hk108.get0 (hk86.get0 (hk65.get0 (hk62.get0 (hk42.get0 (hk27.get0 (hk16.get0 (hk12.get0 (hk8.get0 hb0))))))))))))) (blocks_ne h.nd (i := 0) (j := 14) (by decide) rfl rfl)) rfl)) ?_
              refine o_y rfl (y_load (v := (t4 u)) g230 (rd_agg (vs := u.cs) ag34 (On.kp (hk237.get0 (hk199.get0 (hk142.get0 (hk138.get0 (hk108.get0 (hk86.get0 (hk65.get0 (hk62.get0 (hk42.get0 (hk27.get0 (hk16.get0 hb11))))))))))) (Nat.ne_of_gt (nt (nt ((BibIs.lt h _ (mem_blocks (List.mem_of_getElem? (i := 14) (rfl : g.blocks[14]? = some (g.p 2).mb))))) hk8.size) (Nat.le_refl _)))) (by kernel_rfl) rfl)) ?_
              refine o_one ?_
              have hf239 := (BibIs.k0 (BibIs.k0 hf197 hk199) hk237)
              have hfr9 := free_of (l := (g.p 2).l) (held := st.h 2) (u := u) (by assumption) (by assumption) (by assumption) (by assumption); have hag9 := hfr9.2; have hres9 := pRes_of hfr9
              refine c_e rfl (e_call ca56 (args := [(Vp ((g.p 2).pb) 0), (t4 u)]) rfl (show Rets _ _ _ _ (fun v w1 => v = .int .i64 0 ∧ PoolIs (g.p 2) (st.h 2 ++ [(u, true)]) w1 ∧ Kp (· = (g.p 2).mb) w235 w1) from by have h9 := reserve_spec (BibIs.pool hf239 2 (by omega)) (ok.pool 2 (by omega)) u hu; rw [hres9] at h9; exact h9)) ?_
              rintro _ w240 ⟨rfl, hp242, hk241⟩
              have hB9 := BibIs.pool_put hf239 (k := 2) (by omega) hp242 hk241
              have ka243 := (Kp.trans ka238 hk241 (fun _ _ e => (fun e => (.inr (.inr (.inr (.inr (.inr (.inr e))))))) e))
              have ks244 : Kp (· = (g.p 2).mb) w235 w240 := (Kp.trans (Kp.refl _ _) hk241 (fun _ _ e => e))
              obtain ⟨hm1, hm2, hm3, hm4⟩ := mayE_zero (Decidable.not_not.1 c217)
              refine ⟨ks244, ?_⟩
              refine o_y rfl (y_assign (v := (Vi 0)) rfl) ?_
              refine o_done (hK234 _ _ (genC [(0, (Vp g.tb 0)), (1, (Vi 17)), (6, (Vp w.heap.size 0)), (7, (Vp w6.heap.size 0)), (8, (Vp w10.heap.size 0)), (14, (Vi 0))] ⟨g227, g228, g229, g230, g231, rfl, trivial⟩ ?_))
              clear hK234; rintro E ⟨g245, g246, g247, g248, g249, g250, -⟩
              refine seq fun K251 hK251 => ?_
              refine reg ?_
              refine s_y (y_move (v := (Vi 0)) g250) rfl ?_
              refine s_y (y_neq rfl rfl) rfl ?_
              refine s_nil (hK251 _ _ (genC [(0, (Vp g.tb 0)), (1, (Vi 17)), (6, (Vp w.heap.size 0)), (7, (Vp w6.heap.size 0)), (8, (Vp w10.heap.size 0)), (14, (Vi 0)), (81, Vf)] ⟨g245, g246, g247, g248, g249, g250, rfl, trivial⟩ ?_))
              clear hK251; rintro E ⟨g252, g253, g254, g255, g256, g257, g258, -⟩
              refine cond_f g258 ?_
              refine skip (hK233 _ _ (genC [(0, (Vp g.tb 0)), (1, (Vi 17)), (6, (Vp w.heap.size 0)), (7, (Vp w6.heap.size 0)), (8, (Vp w10.heap.size 0))] ⟨g252, g253, g254, g255, g256, trivial⟩ ?_))
              clear hK233; rintro E ⟨g259, g260, g261, g262, g263, -⟩
              refine seq fun K264 hK264 => ?_
              refine reg ?_
              refine s_y (y_move (v := (Vp g.tb 0)) g259) rfl ?_
              refine s_y (y_move (v := (Vi 17)) g260) rfl ?_
              have hb265 := (hk241.get (hk237.get0 (hk199.get0 hb196)) (Nat.ne_of_gt (nt ((BibIs.lt h _ (mem_blocks (List.mem_of_getElem? (i := 14) (rfl : g.blocks[14]? = some (g.p 2).mb))))) (Nat.le_refl _))))
              refine s_y (y_load (v := (t6 t)) g261 (rd_agg (vs := t.cs) ag32 (On.now hb265) (by kernel_rfl) rfl)) rfl ?_
              have hb266 := (hk241.get (hk237.get0 (hk199.get0 (hk142.get0 (hk138.get0 (hk108.get0 (hk86.get0 (hk65.get0 (hk62.get0 (hk42.get0 (hk27.get0 (hk16.get0 hb11))))))))))) (Nat.ne_of_gt (nt (nt ((BibIs.lt h _ (mem_blocks (List.mem_of_getElem? (i := 14) (rfl : g.blocks[14]? = some (g.p 2).mb))))) hk8.size) (Nat.le_refl _))))
              refine s_y (y_load (v := (t4 u)) g262 (rd_agg (vs := u.cs) ag34 (On.now hb266) (by kernel_rfl) rfl)) rfl ?_
              refine s_y (y_build (vs := [(1, (Vi 17)), (2, (t6 t)), (3, (t4 u)), (4, Vt)]) (v := (.agg #[.int .i64 0, .int .i64 17, u8 t.addr.b0, u8 t.addr.b1, u8 t.addr.b2, u8 t.addr.b3, u8 t.addr.b4, u8 t.addr.b5, u8 t.addr.b6, u8 t.addr.b7, u8 t.addr.b8, u8 t.addr.b9, u8 t.addr.b10, u8 t.addr.b11, u8 t.addr.b12, u8 t.addr.b13, u8 t.addr.b14, u8 t.addr.b15, .int .i64 (t.port), u8 u.addr.a, u8 u.addr.b, u8 u.addr.c, u8 u.addr.d, .int .i64 (u.port), .bool true, .int .i64 0])) rfl (fun _ => by kernel_rfl)) rfl ?_
              refine s_e (e_call ca48 (args := [(Vp g.tb 0), (.agg #[.int .i64 0, .int .i64 17, u8 t.addr.b0, u8 t.addr.b1, u8 t.addr.b2, u8 t.addr.b3, u8 t.addr.b4, u8 t.addr.b5, u8 t.addr.b6, u8 t.addr.b7, u8 t.addr.b8, u8 t.addr.b9, u8 t.addr.b10, u8 t.addr.b11, u8 t.addr.b12, u8 t.addr.b13, u8 t.addr.b14, u8 t.addr.b15, .int .i64 (t.port), u8 u.addr.a, u8 u.addr.b, u8 u.addr.c, u8 u.addr.d, .int .i64 (u.port), .bool true, .int .i64 0])]) rfl (putb_spec ok hB9 (⟨0, 17, t, u, true, 0⟩ : Binding) (show -9223372036854775808 ≤ (17 : Int) ∧ (17 : Int) ≤ 9223372036854775807 from ⟨by decide, by decide⟩) ht hu hle hla hm4 hm3 (out_none hout hag9))) rfl ?_
              rintro _ w267 ⟨⟨x269, rfl, hx270, hP271⟩, hk268⟩
              have ka272 := (Kp.trans ka243 hk268 (fun _ _ e => (fun e => e.elim (fun e => (.inl e)) (fun e => e.elim (fun e => (.inr (.inl e))) (fun e => e.elim (fun e => (.inr (.inr (.inl e)))) (fun e => e.elim (fun e => (.inr (.inr (.inr (.inl e))))) (fun e => e.elim (fun e => (.inr (.inr (.inr (.inr (.inl e)))))) (fun e => (.inr (.inr (.inr (.inr (.inr (.inl e)))))))))))) e))
              have hb273 := BibIs.blk hP271; have hm274 := BibIs.map hP271; have hT275 := BibIs.tb hP271
              have hb276 := (hk268.get (hk241.get (hk237.get0 (hk199.get0 (hk142.get0 (hk138.get0 (hk108.get0 (hk86.get0 (hk65.get0 (hk62.get0 (hk42.get0 (hk27.get0 hb15)))))))))) (Nat.ne_of_gt (nt (nt ((BibIs.lt h _ (mem_blocks (List.mem_of_getElem? (i := 14) (rfl : g.blocks[14]? = some (g.p 2).mb))))) (nl hk8.size hk12.size)) (Nat.le_refl _)))) (not_or.2 ⟨(Nat.ne_of_gt (nt (nt (lt_of_get hb0) (nl hk8.size hk12.size)) (Nat.le_refl _))), (not_or.2 ⟨(Nat.ne_of_gt (nt (nt (hm0.lt) (nl hk8.size hk12.size)) (Nat.le_refl _))), (not_or.2 ⟨(Nat.ne_of_gt (nt (nt ((BibIs.lt h _ (mem_blocks (List.mem_of_getElem? (i := 2) (rfl : g.blocks[2]? = some g.i1.ib))))) (nl hk8.size hk12.size)) (Nat.le_refl _))), (not_or.2 ⟨(Nat.ne_of_gt (nt (nt ((BibIs.lt h _ (mem_blocks (List.mem_of_getElem? (i := 3) (rfl : g.blocks[3]? = some g.i1.sb))))) (nl hk8.size hk12.size)) (Nat.le_refl _))), (not_or.2 ⟨(Nat.ne_of_gt (nt (nt ((BibIs.lt h _ (mem_blocks (List.mem_of_getElem? (i := 4) (rfl : g.blocks[4]? = some g.i2.ib))))) (nl hk8.size hk12.size)) (Nat.le_refl _))), (Nat.ne_of_gt (nt (nt ((BibIs.lt h _ (mem_blocks (List.mem_of_getElem? (i := 5) (rfl : g.blocks[5]? = some g.i2.sb))))) (nl hk8.size hk12.size)) (Nat.le_refl _)))⟩)⟩)⟩)⟩)⟩))
              refine s_e0 (e_storeV (cs' := #[(Vi ((⟨st.last + 1, 17, t, u, true, 0⟩ : Binding).id)), (Vi ((⟨st.last + 1, 17, t, u, true, 0⟩ : Binding).proto)), (u8 (((⟨st.last + 1, 17, t, u, true, 0⟩ : Binding).inn).addr).b0), (u8 (((⟨st.last + 1, 17, t, u, true, 0⟩ : Binding).inn).addr).b1), (u8 (((⟨st.last + 1, 17, t, u, true, 0⟩ : Binding).inn).addr).b2), (u8 (((⟨st.last + 1, 17, t, u, true, 0⟩ : Binding).inn).addr).b3), (u8 (((⟨st.last + 1, 17, t, u, true, 0⟩ : Binding).inn).addr).b4), (u8 (((⟨st.last + 1, 17, t, u, true, 0⟩ : Binding).inn).addr).b5), (u8 (((⟨st.last + 1, 17, t, u, true, 0⟩ : Binding).inn).addr).b6), (u8 (((⟨st.last + 1, 17, t, u, true, 0⟩ : Binding).inn).addr).b7), (u8 (((⟨st.last + 1, 17, t, u, true, 0⟩ : Binding).inn).addr).b8), (u8 (((⟨st.last + 1, 17, t, u, true, 0⟩ : Binding).inn).addr).b9), (u8 (((⟨st.last + 1, 17, t, u, true, 0⟩ : Binding).inn).addr).b10), (u8 (((⟨st.last + 1, 17, t, u, true, 0⟩ : Binding).inn).addr).b11), (u8 (((⟨st.last + 1, 17, t, u, true, 0⟩ : Binding).inn).addr).b12), (u8 (((⟨st.last + 1, 17, t, u, true, 0⟩ : Binding).inn).addr).b13), (u8 (((⟨st.last + 1, 17, t, u, true, 0⟩ : Binding).inn).addr).b14), (u8 (((⟨st.last + 1, 17, t, u, true, 0⟩ : Binding).inn).addr).b15), (Vi (((⟨st.last + 1, 17, t, u, true, 0⟩ : Binding).inn).port)), (u8 (((⟨st.last + 1, 17, t, u, true, 0⟩ : Binding).out).addr).a), (u8 (((⟨st.last + 1, 17, t, u, true, 0⟩ : Binding).out).addr).b), (u8 (((⟨st.last + 1, 17, t, u, true, 0⟩ : Binding).out).addr).c), (u8 (((⟨st.last + 1, 17, t, u, true, 0⟩ : Binding).out).addr).d), (Vi (((⟨st.last + 1, 17, t, u, true, 0⟩ : Binding).out).port)), (.bool ((⟨st.last + 1, 17, t, u, true, 0⟩ : Binding).static)), (Vi ((⟨st.last + 1, 17, t, u, true, 0⟩ : Binding).sessions))]) [(Vi ((⟨st.last + 1, 17, t, u, true, 0⟩ : Binding).id)), (Vi ((⟨st.last + 1, 17, t, u, true, 0⟩ : Binding).proto)), (u8 (((⟨st.last + 1, 17, t, u, true, 0⟩ : Binding).inn).addr).b0), (u8 (((⟨st.last + 1, 17, t, u, true, 0⟩ : Binding).inn).addr).b1), (u8 (((⟨st.last + 1, 17, t, u, true, 0⟩ : Binding).inn).addr).b2), (u8 (((⟨st.last + 1, 17, t, u, true, 0⟩ : Binding).inn).addr).b3), (u8 (((⟨st.last + 1, 17, t, u, true, 0⟩ : Binding).inn).addr).b4), (u8 (((⟨st.last + 1, 17, t, u, true, 0⟩ : Binding).inn).addr).b5), (u8 (((⟨st.last + 1, 17, t, u, true, 0⟩ : Binding).inn).addr).b6), (u8 (((⟨st.last + 1, 17, t, u, true, 0⟩ : Binding).inn).addr).b7), (u8 (((⟨st.last + 1, 17, t, u, true, 0⟩ : Binding).inn).addr).b8), (u8 (((⟨st.last + 1, 17, t, u, true, 0⟩ : Binding).inn).addr).b9), (u8 (((⟨st.last + 1, 17, t, u, true, 0⟩ : Binding).inn).addr).b10), (u8 (((⟨st.last + 1, 17, t, u, true, 0⟩ : Binding).inn).addr).b11), (u8 (((⟨st.last + 1, 17, t, u, true, 0⟩ : Binding).inn).addr).b12), (u8 (((⟨st.last + 1, 17, t, u, true, 0⟩ : Binding).inn).addr).b13), (u8 (((⟨st.last + 1, 17, t, u, true, 0⟩ : Binding).inn).addr).b14), (u8 (((⟨st.last + 1, 17, t, u, true, 0⟩ : Binding).inn).addr).b15), (Vi (((⟨st.last + 1, 17, t, u, true, 0⟩ : Binding).inn).port)), (u8 (((⟨st.last + 1, 17, t, u, true, 0⟩ : Binding).out).addr).a), (u8 (((⟨st.last + 1, 17, t, u, true, 0⟩ : Binding).out).addr).b), (u8 (((⟨st.last + 1, 17, t, u, true, 0⟩ : Binding).out).addr).c), (u8 (((⟨st.last + 1, 17, t, u, true, 0⟩ : Binding).out).addr).d), (Vi (((⟨st.last + 1, 17, t, u, true, 0⟩ : Binding).out).port)), (.bool ((⟨st.last + 1, 17, t, u, true, 0⟩ : Binding).static)), (Vi ((⟨st.last + 1, 17, t, u, true, 0⟩ : Binding).sessions))] g263 (v := (bv (⟨st.last + 1, 17, t, u, true, 0⟩ : Binding))) rfl rfl sz36 hb276 rfl rfl rfl) ?_
              rintro _ w277 ⟨hb278, hk279⟩
              have ka280 := (Kp.fresh ka272 hk279 fun _ e => nl (nl (nl hk8.size hk12.size) (Nat.le_refl _)) (Nat.le_of_eq e.symm))
              refine s_y (y_assign (v := (Vi 0)) rfl) rfl ?_
              refine s_nil (hK264 _ _ (genC [(8, (Vp w10.heap.size 0)), (9, (Vi 0))] ⟨g263, rfl, trivial⟩ ?_))
              clear hK264; rintro E ⟨g281, g282, -⟩
              refine ret (hret _ _ [(bv (⟨(⟨st.last + 1, 17, t, u, true, 0⟩ : Binding).id, (⟨st.last + 1, 17, t, u, true, 0⟩ : Binding).proto, (⟨(((⟨st.last + 1, 17, t, u, true, 0⟩ : Binding).inn).addr), ((⟨st.last + 1, 17, t, u, true, 0⟩ : Binding).inn).port⟩ : T6), (⟨(((⟨st.last + 1, 17, t, u, true, 0⟩ : Binding).out).addr), ((⟨st.last + 1, 17, t, u, true, 0⟩ : Binding).out).port⟩ : T4), (⟨st.last + 1, 17, t, u, true, 0⟩ : Binding).static, (⟨st.last + 1, 17, t, u, true, 0⟩ : Binding).sessions⟩ : Binding)), (Vi 0)] ⟨⟨_, g281, (rd_agg (vs := [(Vi ((⟨st.last + 1, 17, t, u, true, 0⟩ : Binding).id)), (Vi ((⟨st.last + 1, 17, t, u, true, 0⟩ : Binding).proto)), (u8 (((⟨st.last + 1, 17, t, u, true, 0⟩ : Binding).inn).addr).b0), (u8 (((⟨st.last + 1, 17, t, u, true, 0⟩ : Binding).inn).addr).b1), (u8 (((⟨st.last + 1, 17, t, u, true, 0⟩ : Binding).inn).addr).b2), (u8 (((⟨st.last + 1, 17, t, u, true, 0⟩ : Binding).inn).addr).b3), (u8 (((⟨st.last + 1, 17, t, u, true, 0⟩ : Binding).inn).addr).b4), (u8 (((⟨st.last + 1, 17, t, u, true, 0⟩ : Binding).inn).addr).b5), (u8 (((⟨st.last + 1, 17, t, u, true, 0⟩ : Binding).inn).addr).b6), (u8 (((⟨st.last + 1, 17, t, u, true, 0⟩ : Binding).inn).addr).b7), (u8 (((⟨st.last + 1, 17, t, u, true, 0⟩ : Binding).inn).addr).b8), (u8 (((⟨st.last + 1, 17, t, u, true, 0⟩ : Binding).inn).addr).b9), (u8 (((⟨st.last + 1, 17, t, u, true, 0⟩ : Binding).inn).addr).b10), (u8 (((⟨st.last + 1, 17, t, u, true, 0⟩ : Binding).inn).addr).b11), (u8 (((⟨st.last + 1, 17, t, u, true, 0⟩ : Binding).inn).addr).b12), (u8 (((⟨st.last + 1, 17, t, u, true, 0⟩ : Binding).inn).addr).b13), (u8 (((⟨st.last + 1, 17, t, u, true, 0⟩ : Binding).inn).addr).b14), (u8 (((⟨st.last + 1, 17, t, u, true, 0⟩ : Binding).inn).addr).b15), (Vi (((⟨st.last + 1, 17, t, u, true, 0⟩ : Binding).inn).port)), (u8 (((⟨st.last + 1, 17, t, u, true, 0⟩ : Binding).out).addr).a), (u8 (((⟨st.last + 1, 17, t, u, true, 0⟩ : Binding).out).addr).b), (u8 (((⟨st.last + 1, 17, t, u, true, 0⟩ : Binding).out).addr).c), (u8 (((⟨st.last + 1, 17, t, u, true, 0⟩ : Binding).out).addr).d), (Vi (((⟨st.last + 1, 17, t, u, true, 0⟩ : Binding).out).port)), (.bool ((⟨st.last + 1, 17, t, u, true, 0⟩ : Binding).static)), (Vi ((⟨st.last + 1, 17, t, u, true, 0⟩ : Binding).sessions))]) ag36 (On.now hb278) (by kernel_rfl) rfl)⟩, g282, trivial⟩ ?_)
              have hz283 := (nl (nl (nl (nl (nl (nl (nl (nl (nl (nl hk27.size hk42.size) hk62.size) hk65.size) hk86.size) hk108.size) hk138.size) hk142.size) hk199.size) hk237.size) hk241.size)
              have hf284 := (BibIs.kp hP271 hk279 (fun b hb => (fun e => (fun hb => (bfp_add hb).elim (fun hb => Nat.lt_irrefl _ (nt (BibIs.lt h _ hb) (nl (nl hk8.size hk12.size) (Nat.le_refl _)))) (fun e => Nat.ne_of_lt (nt (nt (lt_of_get hb15) hz283) hx270) e)) (e ▸ hb))) (Nat.ne_of_lt (nt (nt (hT0.lt) (nl hk8.size hk12.size)) (Nat.le_refl _))))
              have hbe : bindE g st 2 17 t u = 0 := (bindE_may (by assumption) (by assumption) (by assumption) (by assumption) (by assumption)).trans (Decidable.not_not.1 (by assumption))
              have hz285 := (nl (nl (nl (nl (nl (nl (nl (nl (nl (nl (nl (nl (nl hk8.size hk12.size) hk16.size) hk27.size) hk42.size) hk62.size) hk65.size) hk86.size) hk108.size) hk138.size) hk142.size) hk199.size) hk237.size) hk241.size)
              exact ⟨.inr ⟨hbe, _, rfl, nl hz285 hx270, hf284⟩, ka280⟩

end Go.Proofs.YtdcnblafepgheaaDoor
