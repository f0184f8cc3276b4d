/-
  Written by a program (wip/walks).
-/
import Derived.Test.YtdcnblafepgheaaDoorS5
namespace Go.Proofs.YtdcnblafepgheaaDoor
open Go Go.V
set_option maxRecDepth 100000
theorem qset_spec {g : QG} {q : QS} {w : World} (h : QIs g q w) (ky due : Int) (hid : -9223372036854775808 ≤ ky ∧ ky ≤ 9223372036854775807) (hdue : -9223372036854775808 ≤ due ∧ due ≤ 9223372036854775807) (hc : q.l.length ≤ 1000000) : Rets Tryd.prog 64 #[(.pointer (some ⟨g.qb, 0, none⟩)), (.int .i64 ky), (.int .i64 due)] w fun v w' => (¬ (0 ≤ due ∧ due ≤ 4611686018427387904) ∧ v = .int .i64 1 ∧ K0 w w') ∨ ((0 ≤ due ∧ due ≤ 4611686018427387904) ∧ v = .int .i64 0 ∧ ∃ q', QNx g q w q' w' ∧ ((aget q.m ky = none ∧ q'.l.Perm (q.l ++ [⟨ky, due⟩])) ∨ (∃ i, i < q.l.length ∧ (ix q.l i).id = ky ∧ q'.l.Perm (q.l.set i ⟨ky, due⟩)))) := by
  refine enter Tryd.func64 rfl Tryd.ntmps64 rfl fun Q hret hend E hE => ?_
  have g1 : E 0 = (Vp g.qb 0) := hE 0
  have g2 : E 1 = (Vi ky) := hE 1
  have g3 : E 2 = (Vi due) := hE 2
  clear hE
  have h9q := h
  have hq0 := h.blk; have hrow := h.row; have hpos := h.pos; have hheap := h.heap; have hnd9 := h.nd; have hgd := h.goods
  obtain ⟨row, l, m⟩ := q
  have hne1 : g.qb ≠ g.o.ob ∧ g.qb ≠ g.o.mb ∧ g.o.ob ≠ g.o.mb := by have h9 := List.nodup_append.1 (show ([g.qb, g.o.ob, g.o.mb] ++ rowb row).Nodup from hnd9); have h8 := h9.1; simp at h8; exact ⟨h8.1.1, h8.1.2, h8.2⟩
  cases row with
  | none =>
    obtain ⟨hb0, hm0, hl9, hm9⟩ : Blk _ g.o.ob _ 153 ∧ QMap _ g.o.mb [] ∧ l = [] ∧ m = [] := hrow
    subst hl9 hm9
    refine seq fun K4 hK4 => ?_
    refine reg ?_
    refine s_y (y_assign (v := (Vi 0)) rfl) rfl ?_
    refine s_nil (hK4 _ _ (genC [(0, (Vp g.qb 0)), (1, (Vi ky)), (2, (Vi due))] ⟨g1, g2, g3, trivial⟩ ?_))
    clear hK4; rintro E ⟨g5, g6, g7, -⟩
    refine seq fun K8 hK8 => ?_
    refine seq fun K9 hK9 => ?_
    refine reg ?_
    refine s_y (y_move (v := (Vp g.qb 0)) g5) rfl ?_
    refine s_e (e_call ca90 (args := [(Vp g.qb 0)]) rfl (qnone_spec h9q)) rfl ?_
    rintro _ w10 ⟨rfl, hk11⟩
    have ka12 : Kp (fun k => k = g.o.ob ∨ k = g.o.mb) w w10 := (Kp.then0 (Kp.refl _ _) hk11)
    refine s_nil (hK9 _ _ (genC [(0, (Vp g.qb 0)), (1, (Vi ky)), (2, (Vi due)), (10, Vf)] ⟨g5, g6, g7, rfl, trivial⟩ ?_))
    clear hK9; rintro E ⟨g13, g14, g15, g16, -⟩
    refine cond_f g16 ?_
    refine skip (hK8 _ _ (genC [(0, (Vp g.qb 0)), (1, (Vi ky)), (2, (Vi due))] ⟨g13, g14, g15, trivial⟩ ?_))
    clear hK8; rintro E ⟨g17, g18, g19, -⟩
    refine seq fun K20 hK20 => ?_
    refine seq fun K21 hK21 => ?_
    refine reg ?_
    refine s_y (y_move (v := (Vi due)) g19) rfl ?_
    refine s_y (y_lss rfl rfl) rfl ?_
    refine s_y (y_move (v := (.bool (decide ((due : Int) < 0)))) rfl) rfl ?_
    by_cases c22 : (due : Int) < 0
    · refine s_no (.no rfl (c := true) (congrArg Value.bool (decide_eq_true c22)) rfl) rfl ?_
      refine s_no (.no rfl (c := true) (congrArg Value.bool (decide_eq_true c22)) rfl) rfl ?_
      refine s_y (y_pick_t (congrArg Value.bool (decide_eq_true c22)) (v := Vt) rfl) rfl ?_
      refine s_nil (hK21 _ _ (genC [(0, (Vp g.qb 0)), (1, (Vi ky)), (2, (Vi due)), (16, Vt)] ⟨g17, g18, g19, rfl, trivial⟩ ?_))
      clear hK21; rintro E ⟨g23, g24, g25, g26, -⟩
      refine cond_t g26 ?_
      refine seq fun K27 hK27 => ?_
      refine reg ?_
      refine s_y (y_assign (v := (Vi 1)) rfl) rfl ?_
      refine s_nil (hK27 _ _ (genC [(6, (Vi 1))] ⟨rfl, trivial⟩ ?_))
      clear hK27; rintro E ⟨g28, -⟩
      refine ret (hret _ _ [(Vi 1)] ⟨g28, trivial⟩ ?_)
      exact .inl ⟨by omega, rfl, (Kp.then0 (Kp.refl _ _) hk11)⟩
    · refine s_gy (.yes rfl (congrArg Value.bool (decide_eq_false c22))) (y_move (v := (Vi due)) g19) rfl ?_
      refine s_gy (.yes rfl (congrArg Value.bool (decide_eq_false c22))) (y_gtr rfl rfl) rfl ?_
      refine s_y (y_pick_f (congrArg Value.bool (decide_eq_false c22)) (v := (.bool (decide ((4611686018427387904 : Int) < due)))) rfl) rfl ?_
      refine s_nil (hK21 _ _ (genC [(0, (Vp g.qb 0)), (1, (Vi ky)), (2, (Vi due)), (16, (.bool (decide ((4611686018427387904 : Int) < due))))] ⟨g17, g18, g19, rfl, trivial⟩ ?_))
      clear hK21; rintro E ⟨g29, g30, g31, g32, -⟩
      refine cond_d g32 (fun c33 => ?_) (fun c33 => ?_)
      · refine seq fun K34 hK34 => ?_
        refine reg ?_
        refine s_y (y_assign (v := (Vi 1)) rfl) rfl ?_
        refine s_nil (hK34 _ _ (genC [(6, (Vi 1))] ⟨rfl, trivial⟩ ?_))
        clear hK34; rintro E ⟨g35, -⟩
        refine ret (hret _ _ [(Vi 1)] ⟨g35, trivial⟩ ?_)
        exact .inl ⟨by omega, rfl, (Kp.then0 (Kp.refl _ _) hk11)⟩
      · refine skip (hK20 _ _ (genC [(0, (Vp g.qb 0)), (1, (Vi ky)), (2, (Vi due))] ⟨g29, g30, g31, trivial⟩ ?_))
        clear hK20; rintro E ⟨g36, g37, g38, -⟩
        refine seq fun K39 hK39 => ?_
        refine reg ?_
        refine s_y (y_move (v := (Vp g.qb 0)) g36) rfl ?_
        refine s_y (y_nil rfl) rfl ?_
        refine s_y (y_fld fo155_0 rfl) rfl ?_
        have hb40 := (hk11.get0 hq0)
        refine s_y (y_load (v := (Vp g.o.ob 0)) rfl (rd_sc sc150 (On.now hb40) rfl)) rfl ?_
        refine s_y (y_nil rfl) rfl ?_
        refine s_y (y_fld fo153_1 rfl) rfl ?_
        have hb41 := (hk11.get0 hb0)
        refine s_y (y_load (v := (.map (some g.o.mb))) rfl (rd_sc sc85 (On.now hb41) rfl)) rfl ?_
        refine s_y (y_move (v := (Vi ky)) g37) rfl ?_
        have hf42 := (hm0.kp hk11 id)
        refine s_y (y_lookup2_none kf3 Tryd.underlying85 ze3 (MapOn.now hf42) rfl rfl (show inI ky from inI_of (by omega) (by omega)) rfl) rfl ?_
        refine s_y (y_move (v := (.tuple #[(Vi 0), Vf])) rfl) rfl ?_
        refine s_y (y_ext rfl (v := (Vi 0)) rfl) rfl ?_
        refine s_y (y_ext rfl (v := Vf) rfl) rfl ?_
        refine s_y (y_assign (v := (Vi 0)) rfl) rfl ?_
        refine s_y (y_assign (v := Vf) rfl) rfl ?_
        refine s_nil (hK39 _ _ (genC [(0, (Vp g.qb 0)), (1, (Vi ky)), (2, (Vi due)), (7, (Vi 0)), (8, Vf)] ⟨g36, g37, g38, rfl, rfl, trivial⟩ ?_))
        clear hK39; rintro E ⟨g43, g44, g45, g46, g47, -⟩
        refine seq fun K48 hK48 => ?_
        refine seq fun K49 hK49 => ?_
        refine reg ?_
        refine s_y (y_move (v := Vf) g47) rfl ?_
        refine s_y (y_not rfl) rfl ?_
        refine s_nil (hK49 _ _ (genC [(0, (Vp g.qb 0)), (1, (Vi ky)), (2, (Vi due)), (7, (Vi 0)), (30, Vt)] ⟨g43, g44, g45, g46, rfl, trivial⟩ ?_))
        clear hK49; rintro E ⟨g50, g51, g52, g53, g54, -⟩
        refine cond_t g54 ?_
        refine seq fun K55 hK55 => ?_
        refine reg ?_
        refine s_y (y_move (v := (Vp g.qb 0)) g50) rfl ?_
        refine s_y (y_nil rfl) rfl ?_
        refine s_y (y_fld fo155_0 rfl) rfl ?_
        refine s_y (y_load (v := (Vp g.o.ob 0)) rfl (rd_sc sc150 (On.now hb40) rfl)) rfl ?_
        refine s_y (y_iface Tryd.underlying150 (by intro _ h; cases h) (v := (Vp g.o.ob 0)) rfl) rfl ?_
        refine s_y (y_move (v := (Vi ky)) g51) rfl ?_
        refine s_y (y_move (v := (Vi due)) g52) rfl ?_
        refine s_y (y_build (vs := [(0, (Vi ky)), (1, (Vi due))]) (v := (.agg #[.int .i64 ky, .int .i64 due])) rfl (fun _ => by kernel_rfl)) rfl ?_
        refine s_y (y_iface Tryd.underlying164 (by intro _ h; cases h) (v := (.agg #[.int .i64 ky, .int .i64 due])) rfl) rfl ?_
        refine s_e (e_call ca91 (args := [(.iface 150 (Vp g.o.ob 0)), (.iface 164 (.agg #[.int .i64 ky, .int .i64 due]))]) rfl (hpush0_spec hb41 hf42 ⟨ky, due⟩ hid)) rfl ?_
        rintro _ w56 ⟨⟨rb59, cap60, l61, m62, rfl, hP57⟩, hk58⟩
        have ka63 := (Kp.trans ka12 hk58 (fun _ _ e => e))
        refine s_nil (hK55 _ _ (genC [] trivial ?_))
        clear hK55; rintro E -
        refine seq fun K64 hK64 => ?_
        refine reg ?_
        refine s_y (y_assign (v := (Vi 0)) rfl) rfl ?_
        refine s_nil (hK64 _ _ (genC [(6, (Vi 0))] ⟨rfl, trivial⟩ ?_))
        clear hK64; rintro E ⟨g65, -⟩
        refine ret (hret _ _ [(Vi 0)] ⟨g65, trivial⟩ ?_)
        have hb66 := (hk58.get hb40 (not_or.2 ⟨hne1.1, hne1.2.1⟩))
        have hnew9 := PuRes.new hP57
        exact .inr ⟨by omega, rfl, _, QNx.mk' h9q (PuRes.o hP57) (PuRes.pos hP57) (PuRes.heap hP57) (.inr (nl hk11.size (hnew9.elim Nat.le_of_eq id))) hb66 (ka63.mono fun i _ e => by unfold qfp; simp only [rowb, List.mem_append, List.mem_cons, List.not_mem_nil, or_false]; omega), .inl ⟨rfl, PuRes.perm hP57⟩⟩
  | some p =>
    obtain ⟨rb, cap⟩ := p
    have ho9 : OAt g.o rb cap l.length l m _ := hrow
    have hb0 := ho9.blk; have hr0 := ho9.row; have hm0 := ho9.map; have hn1 := ho9.ne; have hbg := ho9.big; have hn3 : rb ≠ g.o.mb := Elts.ne_map ho9.row.elts ho9.map
    have hn4 : g.qb ≠ rb := by have h9 := List.nodup_append.1 (show ([g.qb, g.o.ob, g.o.mb] ++ rowb (some (rb, cap))).Nodup from hnd9); exact h9.2.2 _ (by simp) _ (by simp [rowb])
    refine seq fun K67 hK67 => ?_
    refine reg ?_
    refine s_y (y_assign (v := (Vi 0)) rfl) rfl ?_
    refine s_nil (hK67 _ _ (genC [(0, (Vp g.qb 0)), (1, (Vi ky)), (2, (Vi due))] ⟨g1, g2, g3, trivial⟩ ?_))
    clear hK67; rintro E ⟨g68, g69, g70, -⟩
    refine seq fun K71 hK71 => ?_
    refine seq fun K72 hK72 => ?_
    refine reg ?_
    refine s_y (y_move (v := (Vp g.qb 0)) g68) rfl ?_
    refine s_e (e_call ca90 (args := [(Vp g.qb 0)]) rfl (qnone_spec h9q)) rfl ?_
    rintro _ w73 ⟨rfl, hk74⟩
    have ka75 : Kp (fun k => k = g.o.ob ∨ k = rb ∨ k = g.o.mb) w w73 := (Kp.then0 (Kp.refl _ _) hk74)
    refine s_nil (hK72 _ _ (genC [(0, (Vp g.qb 0)), (1, (Vi ky)), (2, (Vi due)), (10, Vf)] ⟨g68, g69, g70, rfl, trivial⟩ ?_))
    clear hK72; rintro E ⟨g76, g77, g78, g79, -⟩
    refine cond_f g79 ?_
    refine skip (hK71 _ _ (genC [(0, (Vp g.qb 0)), (1, (Vi ky)), (2, (Vi due))] ⟨g76, g77, g78, trivial⟩ ?_))
    clear hK71; rintro E ⟨g80, g81, g82, -⟩
    refine seq fun K83 hK83 => ?_
    refine seq fun K84 hK84 => ?_
    refine reg ?_
    refine s_y (y_move (v := (Vi due)) g82) rfl ?_
    refine s_y (y_lss rfl rfl) rfl ?_
    refine s_y (y_move (v := (.bool (decide ((due : Int) < 0)))) rfl) rfl ?_
    by_cases c85 : (due : Int) < 0
    · refine s_no (.no rfl (c := true) (congrArg Value.bool (decide_eq_true c85)) rfl) rfl ?_
      refine s_no (.no rfl (c := true) (congrArg Value.bool (decide_eq_true c85)) rfl) rfl ?_
      refine s_y (y_pick_t (congrArg Value.bool (decide_eq_true c85)) (v := Vt) rfl) rfl ?_
      refine s_nil (hK84 _ _ (genC [(0, (Vp g.qb 0)), (1, (Vi ky)), (2, (Vi due)), (16, Vt)] ⟨g80, g81, g82, rfl, trivial⟩ ?_))
      clear hK84; rintro E ⟨g86, g87, g88, g89, -⟩
      refine cond_t g89 ?_
      refine seq fun K90 hK90 => ?_
      refine reg ?_
      refine s_y (y_assign (v := (Vi 1)) rfl) rfl ?_
      refine s_nil (hK90 _ _ (genC [(6, (Vi 1))] ⟨rfl, trivial⟩ ?_))
      clear hK90; rintro E ⟨g91, -⟩
      refine ret (hret _ _ [(Vi 1)] ⟨g91, trivial⟩ ?_)
      exact .inl ⟨by omega, rfl, (Kp.then0 (Kp.refl _ _) hk74)⟩
    · refine s_gy (.yes rfl (congrArg Value.bool (decide_eq_false c85))) (y_move (v := (Vi due)) g82) rfl ?_
      refine s_gy (.yes rfl (congrArg Value.bool (decide_eq_false c85))) (y_gtr rfl rfl) rfl ?_
      refine s_y (y_pick_f (congrArg Value.bool (decide_eq_false c85)) (v := (.bool (decide ((4611686018427387904 : Int) < due)))) rfl) rfl ?_
      refine s_nil (hK84 _ _ (genC [(0, (Vp g.qb 0)), (1, (Vi ky)), (2, (Vi due)), (16, (.bool (decide ((4611686018427387904 : Int) < due))))] ⟨g80, g81, g82, rfl, trivial⟩ ?_))
      clear hK84; rintro E ⟨g92, g93, g94, g95, -⟩
      refine cond_d g95 (fun c96 => ?_) (fun c96 => ?_)
      · refine seq fun K97 hK97 => ?_
        refine reg ?_
        refine s_y (y_assign (v := (Vi 1)) rfl) rfl ?_
        refine s_nil (hK97 _ _ (genC [(6, (Vi 1))] ⟨rfl, trivial⟩ ?_))
        clear hK97; rintro E ⟨g98, -⟩
        refine ret (hret _ _ [(Vi 1)] ⟨g98, trivial⟩ ?_)
        exact .inl ⟨by omega, rfl, (Kp.then0 (Kp.refl _ _) hk74)⟩
      · refine skip (hK83 _ _ (genC [(0, (Vp g.qb 0)), (1, (Vi ky)), (2, (Vi due))] ⟨g92, g93, g94, trivial⟩ ?_))
        clear hK83; rintro E ⟨g99, g100, g101, -⟩
        refine seq fun K102 hK102 => ?_
        refine reg ?_
        refine s_y (y_move (v := (Vp g.qb 0)) g99) rfl ?_
        refine s_y (y_nil rfl) rfl ?_
        refine s_y (y_fld fo155_0 rfl) rfl ?_
        have hb103 := (hk74.get0 hq0)
        refine s_y (y_load (v := (Vp g.o.ob 0)) rfl (rd_sc sc150 (On.now hb103) rfl)) rfl ?_
        refine s_y (y_nil rfl) rfl ?_
        refine s_y (y_fld fo153_1 rfl) rfl ?_
        have hb104 := (hk74.get0 hb0)
        refine s_y (y_load (v := (.map (some g.o.mb))) rfl (rd_sc sc85 (On.now hb104) rfl)) rfl ?_
        refine s_y (y_move (v := (Vi ky)) g100) rfl ?_
        have hf105 := (hm0.kp hk74 id)
        cases c106 : aget m ky with
        | none =>
          refine s_y (y_lookup2_none kf3 Tryd.underlying85 ze3 (MapOn.now hf105) rfl rfl (show inI ky from inI_of (by omega) (by omega)) c106) rfl ?_
          refine s_y (y_move (v := (.tuple #[(Vi 0), Vf])) rfl) rfl ?_
          refine s_y (y_ext rfl (v := (Vi 0)) rfl) rfl ?_
          refine s_y (y_ext rfl (v := Vf) rfl) rfl ?_
          refine s_y (y_assign (v := (Vi 0)) rfl) rfl ?_
          refine s_y (y_assign (v := Vf) rfl) rfl ?_
          refine s_nil (hK102 _ _ (genC [(0, (Vp g.qb 0)), (1, (Vi ky)), (2, (Vi due)), (7, (Vi 0)), (8, Vf)] ⟨g99, g100, g101, rfl, rfl, trivial⟩ ?_))
          clear hK102; rintro E ⟨g108, g109, g110, g111, g112, -⟩
          refine seq fun K113 hK113 => ?_
          refine seq fun K114 hK114 => ?_
          refine reg ?_
          refine s_y (y_move (v := Vf) g112) rfl ?_
          refine s_y (y_not rfl) rfl ?_
          refine s_nil (hK114 _ _ (genC [(0, (Vp g.qb 0)), (1, (Vi ky)), (2, (Vi due)), (7, (Vi 0)), (30, Vt)] ⟨g108, g109, g110, g111, rfl, trivial⟩ ?_))
          clear hK114; rintro E ⟨g115, g116, g117, g118, g119, -⟩
          refine cond_t g119 ?_
          refine seq fun K120 hK120 => ?_
          refine reg ?_
          refine s_y (y_move (v := (Vp g.qb 0)) g115) rfl ?_
          refine s_y (y_nil rfl) rfl ?_
          refine s_y (y_fld fo155_0 rfl) rfl ?_
          refine s_y (y_load (v := (Vp g.o.ob 0)) rfl (rd_sc sc150 (On.now hb103) rfl)) rfl ?_
          refine s_y (y_iface Tryd.underlying150 (by intro _ h; cases h) (v := (Vp g.o.ob 0)) rfl) rfl ?_
          refine s_y (y_move (v := (Vi ky)) g116) rfl ?_
          refine s_y (y_move (v := (Vi due)) g117) rfl ?_
          refine s_y (y_build (vs := [(0, (Vi ky)), (1, (Vi due))]) (v := (.agg #[.int .i64 ky, .int .i64 due])) rfl (fun _ => by kernel_rfl)) rfl ?_
          refine s_y (y_iface Tryd.underlying164 (by intro _ h; cases h) (v := (.agg #[.int .i64 ky, .int .i64 due])) rfl) rfl ?_
          have hf121 := (OAt.kp ho9 hk74 id id id)
          refine s_e (e_call ca91 (args := [(.iface 150 (Vp g.o.ob 0)), (.iface 164 (.agg #[.int .i64 ky, .int .i64 due]))]) rfl (hpush_spec hf121 hpos hheap ⟨ky, due⟩ c106 hid hc)) rfl ?_
          rintro _ w122 ⟨⟨rb125, cap126, l127, m128, rfl, hP123⟩, hk124⟩
          have ka129 := (Kp.trans ka75 hk124 (fun _ _ e => e))
          refine s_nil (hK120 _ _ (genC [] trivial ?_))
          clear hK120; rintro E -
          refine seq fun K130 hK130 => ?_
          refine reg ?_
          refine s_y (y_assign (v := (Vi 0)) rfl) rfl ?_
          refine s_nil (hK130 _ _ (genC [(6, (Vi 0))] ⟨rfl, trivial⟩ ?_))
          clear hK130; rintro E ⟨g131, -⟩
          refine ret (hret _ _ [(Vi 0)] ⟨g131, trivial⟩ ?_)
          have hb132 := (hk124.get hb103 (not_or.2 ⟨hne1.1, (not_or.2 ⟨hn4, hne1.2.1⟩)⟩))
          have hnew9 := PuRes.new hP123
          exact .inr ⟨by omega, rfl, _, QNx.mk' h9q (PuRes.o hP123) (PuRes.pos hP123) (PuRes.heap hP123) (hnew9.elim (fun e => .inl (by simp [rowb, e])) fun e => .inr (nl hk74.size e)) hb132 (ka129.mono fun i _ e => by unfold qfp; simp only [rowb, List.mem_append, List.mem_cons, List.not_mem_nil, or_false]; omega), .inl ⟨c106, PuRes.perm hP123⟩⟩
        | some v107 =>
          obtain ⟨i9, hi9, hid9⟩ := hpos.back _ _ c106
          have hi9 : i9 < l.length := hi9; have hid9 : (ix l i9).id = ky := hid9; have hag9 : aget m ky = some ((i9 : Nat) : Int) := by rw [← hid9]; exact hpos.fwd i9 hi9
          refine s_y (y_lookup2_some kf3 Tryd.underlying85 ze3 (MapOn.now hf105) rfl rfl (show inI ky from inI_of (by omega) (by omega)) hag9) rfl ?_
          refine s_y (y_move (v := (.tuple #[(Vi (((i9 : Nat) : Int))), Vt])) rfl) rfl ?_
          refine s_y (y_ext rfl (v := (Vi (((i9 : Nat) : Int)))) rfl) rfl ?_
          refine s_y (y_ext rfl (v := Vt) rfl) rfl ?_
          refine s_y (y_assign (v := (Vi (((i9 : Nat) : Int)))) rfl) rfl ?_
          refine s_y (y_assign (v := Vt) rfl) rfl ?_
          refine s_nil (hK102 _ _ (genC [(0, (Vp g.qb 0)), (1, (Vi ky)), (2, (Vi due)), (7, (Vi (((i9 : Nat) : Int)))), (8, Vt)] ⟨g99, g100, g101, rfl, rfl, trivial⟩ ?_))
          clear hK102; rintro E ⟨g133, g134, g135, g136, g137, -⟩
          refine seq fun K138 hK138 => ?_
          refine seq fun K139 hK139 => ?_
          refine reg ?_
          refine s_y (y_move (v := Vt) g137) rfl ?_
          refine s_y (y_not rfl) rfl ?_
          refine s_nil (hK139 _ _ (genC [(0, (Vp g.qb 0)), (1, (Vi ky)), (2, (Vi due)), (7, (Vi (((i9 : Nat) : Int)))), (30, Vf)] ⟨g133, g134, g135, g136, rfl, trivial⟩ ?_))
          clear hK139; rintro E ⟨g140, g141, g142, g143, g144, -⟩
          refine cond_f g144 ?_
          refine skip (hK138 _ _ (genC [(0, (Vp g.qb 0)), (2, (Vi due)), (7, (Vi (((i9 : Nat) : Int))))] ⟨g140, g142, g143, trivial⟩ ?_))
          clear hK138; rintro E ⟨g145, g146, g147, -⟩
          refine seq fun K148 hK148 => ?_
          refine reg ?_
          refine s_y (y_move (v := (Vp g.qb 0)) g145) rfl ?_
          refine s_y (y_nil rfl) rfl ?_
          refine s_y (y_fld fo155_0 rfl) rfl ?_
          refine s_y (y_load (v := (Vp g.o.ob 0)) rfl (rd_sc sc150 (On.now hb103) rfl)) rfl ?_
          refine s_y (y_nil rfl) rfl ?_
          refine s_y (y_fld fo153_0 rfl) rfl ?_
          refine s_y (y_load (v := (.slice (some ⟨rb, 0, none⟩) l.length cap)) rfl (rd_sc sc151 (On.now hb104) rfl)) rfl ?_
          refine s_y (y_move (v := (Vi (((i9 : Nat) : Int)))) g147) rfl ?_
          refine s_y (y_move (v := (Vi due)) g146) rfl ?_
          refine s_y (y_idx so151 sz164 rfl (i := i9) rfl (by omega)) rfl ?_
          refine s_y (y_fld fo164_1 rfl) rfl ?_
          have hf149 := (hr0.kp hk74 id)
          refine s_e0 (e_storeCf (x := ix l i9) (y := ⟨(ix l i9).id, due⟩) rfl rfl sz3 hf149 (some_ix hi9) (by decide) rfl rfl rfl) ?_
          rintro _ w150 ⟨hC151, hk152⟩
          have ka153 := (Kp.trans ka75 hk152 (fun _ _ e => (fun e => (.inr (.inl e))) e))
          have hb155 := (hk152.get hb104 hn1)
          have hf156 := (hf105.kp hk152 (Ne.symm hn3))
          have ho154 : OAt g.o rb cap l.length (l.set i9 ⟨(ix l i9).id, due⟩) m w150 := ⟨hb155, hC151, hf156, hn1, by simp, hbg⟩
          refine s_nil (hK148 _ _ (genC [(0, (Vp g.qb 0)), (7, (Vi (((i9 : Nat) : Int))))] ⟨g145, g147, trivial⟩ ?_))
          clear hK148; rintro E ⟨g157, g158, -⟩
          refine seq fun K159 hK159 => ?_
          refine reg ?_
          refine s_y (y_move (v := (Vp g.qb 0)) g157) rfl ?_
          refine s_y (y_nil rfl) rfl ?_
          refine s_y (y_fld fo155_0 rfl) rfl ?_
          have hb160 := (hk152.get hb103 hn4)
          refine s_y (y_load (v := (Vp g.o.ob 0)) rfl (rd_sc sc150 (On.now hb160) rfl)) rfl ?_
          refine s_y (y_iface Tryd.underlying150 (by intro _ h; cases h) (v := (Vp g.o.ob 0)) rfl) rfl ?_
          refine s_y (y_move (v := (Vi (((i9 : Nat) : Int)))) g158) rfl ?_
          refine s_e (e_call ca92 (args := [(.iface 150 (Vp g.o.ob 0)), (Vi (((i9 : Nat) : Int)))]) rfl (hfix_spec ho154 (hpos.setDue hi9 due) i9 hi9 (HeapN.setI hheap hi9 (Nat.le_refl _) _))) rfl ?_
          rintro _ w161 ⟨l162, m163, rfl, hr164, hh165⟩
          have ka166 := (Kp.trans ka153 (HRes.kp hr164) (fun _ _ e => (fun e => e.elim (fun e => (.inr (.inl e))) (fun e => (.inr (.inr e)))) e))
          refine s_nil (hK159 _ _ (genC [] trivial ?_))
          clear hK159; rintro E -
          refine seq fun K167 hK167 => ?_
          refine reg ?_
          refine s_y (y_assign (v := (Vi 0)) rfl) rfl ?_
          refine s_nil (hK167 _ _ (genC [(6, (Vi 0))] ⟨rfl, trivial⟩ ?_))
          clear hK167; rintro E ⟨g168, -⟩
          refine ret (hret _ _ [(Vi 0)] ⟨g168, trivial⟩ ?_)
          have hb169 := ((HRes.kp hr164).get hb160 (not_or.2 ⟨hn4, hne1.2.1⟩))
          exact .inr ⟨by omega, rfl, _, QNx.mk' h9q (HRes.o hr164) (HRes.pos hr164) hh165 (.inl (by simp [rowb])) hb169 (ka166.mono fun i _ e => by unfold qfp; simp only [rowb, List.mem_append, List.mem_cons, List.not_mem_nil, or_false]; omega), .inr ⟨i9, hi9, hid9, by have h8 := HRes.perm hr164; rw [hid9] at h8; exact h8⟩⟩

theorem qdrop_spec {g : QG} {q : QS} {w : World} (h : QIs g q w) (ky : Int) (hid : -9223372036854775808 ≤ ky ∧ ky ≤ 9223372036854775807)  : Rets Tryd.prog 66 #[(.pointer (some ⟨g.qb, 0, none⟩)), (.int .i64 ky)] w fun v w' => (aget q.m ky = none ∧ v = .bool false ∧ K0 w w') ∨ (∃ x q', x ∈ q.l ∧ x.id = ky ∧ v = .bool true ∧ (q'.l ++ [x]).Perm q.l ∧ QNx g q w q' w') := by
  refine enter Tryd.func66 rfl Tryd.ntmps66 rfl fun Q hret hend E hE => ?_
  have g1 : E 0 = (Vp g.qb 0) := hE 0
  have g2 : E 1 = (Vi ky) := hE 1
  clear hE
  have h9q := h
  have hq0 := h.blk; have hrow := h.row; have hpos := h.pos; have hheap := h.heap; have hnd9 := h.nd; have hgd := h.goods
  obtain ⟨row, l, m⟩ := q
  have hne1 : g.qb ≠ g.o.ob ∧ g.qb ≠ g.o.mb ∧ g.o.ob ≠ g.o.mb := by have h9 := List.nodup_append.1 (show ([g.qb, g.o.ob, g.o.mb] ++ rowb row).Nodup from hnd9); have h8 := h9.1; simp at h8; exact ⟨h8.1.1, h8.1.2, h8.2⟩
  cases row with
  | none =>
    obtain ⟨hb0, hm0, hl9, hm9⟩ : Blk _ g.o.ob _ 153 ∧ QMap _ g.o.mb [] ∧ l = [] ∧ m = [] := hrow
    subst hl9 hm9
    refine seq fun K3 hK3 => ?_
    refine reg ?_
    refine s_y (y_assign (v := Vf) rfl) rfl ?_
    refine s_nil (hK3 _ _ (genC [(0, (Vp g.qb 0)), (1, (Vi ky))] ⟨g1, g2, trivial⟩ ?_))
    clear hK3; rintro E ⟨g4, g5, -⟩
    refine seq fun K6 hK6 => ?_
    refine seq fun K7 hK7 => ?_
    refine reg ?_
    refine s_y (y_move (v := (Vp g.qb 0)) g4) rfl ?_
    refine s_e (e_call ca90 (args := [(Vp g.qb 0)]) rfl (qnone_spec h9q)) rfl ?_
    rintro _ w8 ⟨rfl, hk9⟩
    have ka10 : Kp (fun k => k = g.o.ob ∨ k = g.o.mb) w w8 := (Kp.then0 (Kp.refl _ _) hk9)
    refine s_nil (hK7 _ _ (genC [(0, (Vp g.qb 0)), (1, (Vi ky)), (8, Vf)] ⟨g4, g5, rfl, trivial⟩ ?_))
    clear hK7; rintro E ⟨g11, g12, g13, -⟩
    refine cond_f g13 ?_
    refine skip (hK6 _ _ (genC [(0, (Vp g.qb 0)), (1, (Vi ky))] ⟨g11, g12, trivial⟩ ?_))
    clear hK6; rintro E ⟨g14, g15, -⟩
    refine seq fun K16 hK16 => ?_
    refine reg ?_
    refine s_y (y_move (v := (Vp g.qb 0)) g14) rfl ?_
    refine s_y (y_nil rfl) rfl ?_
    refine s_y (y_fld fo155_0 rfl) rfl ?_
    have hb17 := (hk9.get0 hq0)
    refine s_y (y_load (v := (Vp g.o.ob 0)) rfl (rd_sc sc150 (On.now hb17) rfl)) rfl ?_
    refine s_y (y_nil rfl) rfl ?_
    refine s_y (y_fld fo153_1 rfl) rfl ?_
    have hb18 := (hk9.get0 hb0)
    refine s_y (y_load (v := (.map (some g.o.mb))) rfl (rd_sc sc85 (On.now hb18) rfl)) rfl ?_
    refine s_y (y_move (v := (Vi ky)) g15) rfl ?_
    have hf19 := (hm0.kp hk9 id)
    refine s_y (y_lookup2_none kf3 Tryd.underlying85 ze3 (MapOn.now hf19) rfl rfl (show inI ky from inI_of (by omega) (by omega)) rfl) rfl ?_
    refine s_y (y_move (v := (.tuple #[(Vi 0), Vf])) rfl) rfl ?_
    refine s_y (y_ext rfl (v := (Vi 0)) rfl) rfl ?_
    refine s_y (y_ext rfl (v := Vf) rfl) rfl ?_
    refine s_y (y_assign (v := (Vi 0)) rfl) rfl ?_
    refine s_y (y_assign (v := Vf) rfl) rfl ?_
    refine s_nil (hK16 _ _ (genC [(0, (Vp g.qb 0)), (5, (Vi 0)), (6, Vf)] ⟨g14, rfl, rfl, trivial⟩ ?_))
    clear hK16; rintro E ⟨g20, g21, g22, -⟩
    refine seq fun K23 hK23 => ?_
    refine seq fun K24 hK24 => ?_
    refine reg ?_
    refine s_y (y_move (v := Vf) g22) rfl ?_
    refine s_nil (hK24 _ _ (genC [(0, (Vp g.qb 0)), (5, (Vi 0)), (6, Vf), (21, Vf)] ⟨g20, g21, g22, rfl, trivial⟩ ?_))
    clear hK24; rintro E ⟨g25, g26, g27, g28, -⟩
    refine cond_f g28 ?_
    refine skip (hK23 _ _ (genC [(6, Vf)] ⟨g27, trivial⟩ ?_))
    clear hK23; rintro E ⟨g29, -⟩
    refine seq fun K30 hK30 => ?_
    refine reg ?_
    refine s_y (y_move (v := Vf) g29) rfl ?_
    refine s_y (y_assign (v := Vf) rfl) rfl ?_
    refine s_nil (hK30 _ _ (genC [(4, Vf)] ⟨rfl, trivial⟩ ?_))
    clear hK30; rintro E ⟨g31, -⟩
    refine ret (hret _ _ [Vf] ⟨g31, trivial⟩ ?_)
    exact .inl ⟨rfl, rfl, (Kp.then0 (Kp.refl _ _) hk9)⟩
  | some p =>
    obtain ⟨rb, cap⟩ := p
    have ho9 : OAt g.o rb cap l.length l m _ := hrow
    have hb0 := ho9.blk; have hr0 := ho9.row; have hm0 := ho9.map; have hn1 := ho9.ne; have hbg := ho9.big; have hn3 : rb ≠ g.o.mb := Elts.ne_map ho9.row.elts ho9.map
    have hn4 : g.qb ≠ rb := by have h9 := List.nodup_append.1 (show ([g.qb, g.o.ob, g.o.mb] ++ rowb (some (rb, cap))).Nodup from hnd9); exact h9.2.2 _ (by simp) _ (by simp [rowb])
    refine seq fun K32 hK32 => ?_
    refine reg ?_
    refine s_y (y_assign (v := Vf) rfl) rfl ?_
    refine s_nil (hK32 _ _ (genC [(0, (Vp g.qb 0)), (1, (Vi ky))] ⟨g1, g2, trivial⟩ ?_))
    clear hK32; rintro E ⟨g33, g34, -⟩
    refine seq fun K35 hK35 => ?_
    refine seq fun K36 hK36 => ?_
    refine reg ?_
    refine s_y (y_move (v := (Vp g.qb 0)) g33) rfl ?_
    refine s_e (e_call ca90 (args := [(Vp g.qb 0)]) rfl (qnone_spec h9q)) rfl ?_
    rintro _ w37 ⟨rfl, hk38⟩
    have ka39 : Kp (fun k => k = g.o.ob ∨ k = rb ∨ k = g.o.mb) w w37 := (Kp.then0 (Kp.refl _ _) hk38)
    refine s_nil (hK36 _ _ (genC [(0, (Vp g.qb 0)), (1, (Vi ky)), (8, Vf)] ⟨g33, g34, rfl, trivial⟩ ?_))
    clear hK36; rintro E ⟨g40, g41, g42, -⟩
    refine cond_f g42 ?_
    refine skip (hK35 _ _ (genC [(0, (Vp g.qb 0)), (1, (Vi ky))] ⟨g40, g41, trivial⟩ ?_))
    clear hK35; rintro E ⟨g43, g44, -⟩
    refine seq fun K45 hK45 => ?_
    refine reg ?_
    refine s_y (y_move (v := (Vp g.qb 0)) g43) rfl ?_
    refine s_y (y_nil rfl) rfl ?_
    refine s_y (y_fld fo155_0 rfl) rfl ?_
    have hb46 := (hk38.get0 hq0)
    refine s_y (y_load (v := (Vp g.o.ob 0)) rfl (rd_sc sc150 (On.now hb46) rfl)) rfl ?_
    refine s_y (y_nil rfl) rfl ?_
    refine s_y (y_fld fo153_1 rfl) rfl ?_
    have hb47 := (hk38.get0 hb0)
    refine s_y (y_load (v := (.map (some g.o.mb))) rfl (rd_sc sc85 (On.now hb47) rfl)) rfl ?_
    refine s_y (y_move (v := (Vi ky)) g44) rfl ?_
    have hf48 := (hm0.kp hk38 id)
    cases c49 : aget m ky with
    | none =>
      refine s_y (y_lookup2_none kf3 Tryd.underlying85 ze3 (MapOn.now hf48) rfl rfl (show inI ky from inI_of (by omega) (by omega)) c49) rfl ?_
      refine s_y (y_move (v := (.tuple #[(Vi 0), Vf])) rfl) rfl ?_
      refine s_y (y_ext rfl (v := (Vi 0)) rfl) rfl ?_
      refine s_y (y_ext rfl (v := Vf) rfl) rfl ?_
      refine s_y (y_assign (v := (Vi 0)) rfl) rfl ?_
      refine s_y (y_assign (v := Vf) rfl) rfl ?_
      refine s_nil (hK45 _ _ (genC [(0, (Vp g.qb 0)), (5, (Vi 0)), (6, Vf)] ⟨g43, rfl, rfl, trivial⟩ ?_))
      clear hK45; rintro E ⟨g51, g52, g53, -⟩
      refine seq fun K54 hK54 => ?_
      refine seq fun K55 hK55 => ?_
      refine reg ?_
      refine s_y (y_move (v := Vf) g53) rfl ?_
      refine s_nil (hK55 _ _ (genC [(0, (Vp g.qb 0)), (5, (Vi 0)), (6, Vf), (21, Vf)] ⟨g51, g52, g53, rfl, trivial⟩ ?_))
      clear hK55; rintro E ⟨g56, g57, g58, g59, -⟩
      refine cond_f g59 ?_
      refine skip (hK54 _ _ (genC [(6, Vf)] ⟨g58, trivial⟩ ?_))
      clear hK54; rintro E ⟨g60, -⟩
      refine seq fun K61 hK61 => ?_
      refine reg ?_
      refine s_y (y_move (v := Vf) g60) rfl ?_
      refine s_y (y_assign (v := Vf) rfl) rfl ?_
      refine s_nil (hK61 _ _ (genC [(4, Vf)] ⟨rfl, trivial⟩ ?_))
      clear hK61; rintro E ⟨g62, -⟩
      refine ret (hret _ _ [Vf] ⟨g62, trivial⟩ ?_)
      exact .inl ⟨c49, rfl, (Kp.then0 (Kp.refl _ _) hk38)⟩
    | some v50 =>
      obtain ⟨i9, hi9, hid9⟩ := hpos.back _ _ c49
      have hi9 : i9 < l.length := hi9; have hid9 : (ix l i9).id = ky := hid9; have hag9 : aget m ky = some ((i9 : Nat) : Int) := by rw [← hid9]; exact hpos.fwd i9 hi9
      refine s_y (y_lookup2_some kf3 Tryd.underlying85 ze3 (MapOn.now hf48) rfl rfl (show inI ky from inI_of (by omega) (by omega)) hag9) rfl ?_
      refine s_y (y_move (v := (.tuple #[(Vi (((i9 : Nat) : Int))), Vt])) rfl) rfl ?_
      refine s_y (y_ext rfl (v := (Vi (((i9 : Nat) : Int)))) rfl) rfl ?_
      refine s_y (y_ext rfl (v := Vt) rfl) rfl ?_
      refine s_y (y_assign (v := (Vi (((i9 : Nat) : Int)))) rfl) rfl ?_
      refine s_y (y_assign (v := Vt) rfl) rfl ?_
      refine s_nil (hK45 _ _ (genC [(0, (Vp g.qb 0)), (5, (Vi (((i9 : Nat) : Int)))), (6, Vt)] ⟨g43, rfl, rfl, trivial⟩ ?_))
      clear hK45; rintro E ⟨g63, g64, g65, -⟩
      refine seq fun K66 hK66 => ?_
      refine seq fun K67 hK67 => ?_
      refine reg ?_
      refine s_y (y_move (v := Vt) g65) rfl ?_
      refine s_nil (hK67 _ _ (genC [(0, (Vp g.qb 0)), (5, (Vi (((i9 : Nat) : Int)))), (6, Vt), (21, Vt)] ⟨g63, g64, g65, rfl, trivial⟩ ?_))
      clear hK67; rintro E ⟨g68, g69, g70, g71, -⟩
      refine cond_t g71 ?_
      refine reg ?_
      refine s_y (y_move (v := (Vp g.qb 0)) g68) rfl ?_
      refine s_y (y_nil rfl) rfl ?_
      refine s_y (y_fld fo155_0 rfl) rfl ?_
      refine s_y (y_load (v := (Vp g.o.ob 0)) rfl (rd_sc sc150 (On.now hb46) rfl)) rfl ?_
      refine s_y (y_iface Tryd.underlying150 (by intro _ h; cases h) (v := (Vp g.o.ob 0)) rfl) rfl ?_
      refine s_y (y_move (v := (Vi (((i9 : Nat) : Int)))) g69) rfl ?_
      obtain ⟨n9, hn9⟩ : ∃ n9, l.length = n9 + 1 := ⟨l.length - 1, by omega⟩
      have hf72 := (OAt.kp ho9 hk38 id id id)
      refine s_e (e_call ca93 (args := [(.iface 150 (Vp g.o.ob 0)), (Vi (((i9 : Nat) : Int)))]) rfl (hremove_spec (n := n9) (hn9 ▸ hf72) hpos (hn9 ▸ hheap) i9 (hn9 ▸ hi9))) rfl ?_
      rintro _ w73 ⟨⟨l74, m75, rfl, ho76, hp77, hpm78, hh79⟩, hk80⟩
      have ka81 := (Kp.trans ka39 hk80 (fun _ _ e => e))
      refine s_nil (hK66 _ _ (genC [(6, Vt)] ⟨g70, trivial⟩ ?_))
      clear hK66; rintro E ⟨g82, -⟩
      refine seq fun K83 hK83 => ?_
      refine reg ?_
      refine s_y (y_move (v := Vt) g82) rfl ?_
      refine s_y (y_assign (v := Vt) rfl) rfl ?_
      refine s_nil (hK83 _ _ (genC [(4, Vt)] ⟨rfl, trivial⟩ ?_))
      clear hK83; rintro E ⟨g84, -⟩
      refine ret (hret _ _ [Vt] ⟨g84, trivial⟩ ?_)
      have hb85 := (hk80.get hb46 (not_or.2 ⟨hne1.1, (not_or.2 ⟨hn4, hne1.2.1⟩)⟩))
      exact .inr ⟨ix l i9, _, ix_mem hi9, hid9, rfl, hpm78, QNx.mk' h9q ho76 hp77 hh79 (.inl (by simp [rowb])) hb85 (ka81.mono fun i _ e => by unfold qfp; simp only [rowb, List.mem_append, List.mem_cons, List.not_mem_nil, or_false]; omega)⟩

end Go.Proofs.YtdcnblafepgheaaDoor
