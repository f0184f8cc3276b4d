/-
  Written by a program (wip/walks).
-/
import Derived.Test.YtdcnblafepgheaaDoorS2
namespace Go.Proofs.YtdcnblafepgheaaDoor
open Go Go.V
set_option maxRecDepth 100000
/-- what a new thing leaves -/
structure PRes (g : OG) (rb n : Nat) (l : List Thing) (w : World) (rb' cap' : Nat) (l' : List Thing) (m' : List (Int × Int)) (w' : World) : Prop where
  o : OAt g rb' cap' (n + 1) l' m' w'
  pos : PosOK l' m'
  new : rb = rb' ∨ w.heap.size ≤ rb'
theorem opush0_spec {g : OG} {w : World} (hb0 : Blk w g.ob #[.slice none 0 0, .map (some g.mb)] 153) (hm0 : MapAt (fun n : Int => .int .i64 n) (fun n : Int => Value.int .i64 n) inI w g.mb ([] : List (Int × Int))) (x : Thing) (hi : inI x.id) : Rets Tryd.prog 178 #[(.pointer (some ⟨g.ob, 0, none⟩)), (.iface 164 (.agg #[.int .i64 (x.id), .int .i64 (x.due)]))] w fun v w' => (∃ rb' cap', v = .tuple #[] ∧ PRes g w.heap.size 0 ([] : List Thing) w rb' cap' (([] : List Thing) ++ [x]) (([] : List (Int × Int)) ++ [(x.id, ((0 : Nat) : Int))]) w') ∧ Kp (fun k => k = g.ob ∨ k = g.mb) w w' := by
  refine enter Tryd.func178 rfl Tryd.ntmps178 rfl fun Q hret hend E hE => ?_
  have g1 : E 0 = (Vp g.ob 0) := hE 0
  have g2 : E 1 = (.iface 164 (.agg #[.int .i64 (x.id), .int .i64 (x.due)])) := hE 1
  clear hE
  have hn2 : g.ob ≠ g.mb := blk_ne_map hb0 hm0
  refine seq fun K3 hK3 => ?_
  refine reg ?_
  refine s_y (y_move (v := (.iface 164 (.agg #[.int .i64 (x.id), .int .i64 (x.due)]))) g2) rfl ?_
  refine s_y (y_assert Tryd.underlying164 (by intro _ h; cases h) rfl) rfl ?_
  refine s_e (e_alloc ze164) rfl ?_
  rintro _ w4 ⟨rfl, hb5, hk6⟩
  have ka7 : Kp (fun k => k = g.ob ∨ k = g.mb) w w4 := (Kp.then0 (Kp.refl _ _) hk6)
  refine s_e0 (e_storeV (cs' := #[(Vi (x.id)), (Vi (x.due))]) [(Vi (x.id)), (Vi (x.due))] rfl (v := (.agg #[.int .i64 (x.id), .int .i64 (x.due)])) rfl rfl sz164 hb5 rfl rfl rfl) ?_
  rintro _ w8 ⟨hb9, hk10⟩
  have ka11 := (Kp.fresh ka7 hk10 fun _ e => nl (nl (Nat.le_refl _) (Nat.le_refl _)) (Nat.le_of_eq e.symm))
  refine s_nil (hK3 _ _ (genC [(0, (Vp g.ob 0)), (4, (Vp w.heap.size 0))] ⟨g1, rfl, trivial⟩ ?_))
  clear hK3; rintro E ⟨g12, g13, -⟩
  refine seq fun K14 hK14 => ?_
  refine regD (· = g.mb) (.take 0 (.take 1 (.take 2 (.take 3 (.take 4 (.take 5 (.take 6 (.take 7 (.take 8 (.take 9 (.take 10 (.one 11 .done)))))))))))) mixed (by kernel_rfl) fun w15 hh16 hk17 => ?_
  have ka18 := (Kp.then0 ka11 hk17)
  refine o_y rfl (y_move (v := (Vp g.ob 0)) g12) ?_
  refine o_y rfl (y_nil rfl) ?_
  refine o_y rfl (y_fld fo153_1 rfl) ?_
  refine o_y rfl (y_load (v := (.map (some g.mb))) rfl (rd_sc sc85 (On.kp (hk17.get0 (hk10.get (hk6.get0 hb0) (Nat.ne_of_lt (nt (lt_of_get hb0) (Nat.le_refl _))))) hn2) rfl)) ?_
  refine o_y rfl (y_fld fo164_0 g13) ?_
  refine o_y rfl (y_load (v := (Vi (x.id))) rfl (rd_sc sc3 (On.kp (hk17.get0 hb9) (Nat.ne_of_gt (nt (hm0.lt) (Nat.le_refl _)))) rfl)) ?_
  refine o_y rfl (y_move (v := (Vp g.ob 0)) g12) ?_
  refine o_y rfl (y_nil rfl) ?_
  refine o_y rfl (y_fld fo153_0 rfl) ?_
  refine o_y rfl (y_load (v := (.slice none 0 0)) rfl (rd_sc sc151 (On.kp (hk17.get0 (hk10.get (hk6.get0 hb0) (Nat.ne_of_lt (nt (lt_of_get hb0) (Nat.le_refl _))))) hn2) rfl)) ?_
  refine o_y rfl (y_lenS so151 rfl) ?_
  refine o_one ?_
  have hf19 := (((hm0.kp hk6 id).kp hk10 (Nat.ne_of_lt (nt (hm0.lt) (Nat.le_refl _)))).kp hk17 id)
  refine c_e0 rfl (e_mapPut kf3 Tryd.underlying85 hf19 rfl rfl (v := ((0 : Nat) : Int)) rfl hi rfl) ?_
  rintro _ w20 ⟨hm21, hk22⟩
  have ka23 := (Kp.trans ka18 hk22 (fun _ _ e => (fun e => (.inr e)) e))
  have ks24 : Kp (· = g.mb) w15 w20 := (Kp.trans (Kp.refl _ _) hk22 (fun _ _ e => e))
  refine ⟨ks24, ?_⟩
  refine o_done (hK14 _ _ (genC [(0, (Vp g.ob 0)), (4, (Vp w.heap.size 0))] ⟨g12, g13, trivial⟩ ?_))
  clear hK14; rintro E ⟨g25, g26, -⟩
  refine regD (· = g.ob) (.take 0 (.take 1 (.take 2 (.take 3 (.take 5 (.two 4 (.one 6 (.one 7 (.take 8 (.take 9 (.one 10 .done))))) 6 (.one 4 (.one 7 (.take 8 (.take 9 (.one 10 .done))))))))))) mixed (by kernel_rfl) fun w27 hh28 hk29 => ?_
  have ka30 := (Kp.then0 ka23 hk29)
  refine o_y rfl (y_move (v := (Vp g.ob 0)) g25) ?_
  refine o_y rfl (y_move (v := (Vp g.ob 0)) g25) ?_
  refine o_y rfl (y_nil rfl) ?_
  refine o_y rfl (y_fld fo153_0 rfl) ?_
  refine o_y rfl (y_load (v := (.agg #[.int .i64 (x.id), .int .i64 (x.due)])) g26 (rd_agg (vs := [(Vi (x.id)), (Vi (x.due))]) ag164 (On.kp (hk29.get0 (hk22.get (hk17.get0 hb9) (Nat.ne_of_gt (nt (hm0.lt) (Nat.le_refl _))))) (Nat.ne_of_gt (nt (lt_of_get hb0) (Nat.le_refl _)))) (by kernel_rfl) rfl)) ?_
  refine o_two ?_ ?_
  · have hb31 := (hk29.get0 (hk22.get (hk17.get0 (hk10.get (hk6.get0 hb0) (Nat.ne_of_lt (nt (lt_of_get hb0) (Nat.le_refl _))))) hn2))
    refine c_e rfl (R := fun v_ w_ => v_ = (.slice none 0 0) ∧ w27 = w_) (Eff.of_yld (y_load (v := (.slice none 0 0)) rfl (rd_sc sc151 (On.now hb31) rfl)) ⟨rfl, rfl⟩) ?_
    rintro _ _ ⟨rfl, rfl⟩
    refine ⟨(Kp.refl _ _), ?_⟩
    refine o_one ?_
    refine c_e rfl (e_buildSlice (cs := #[(Vi (x.id)), (Vi (x.due))]) (e := 164) (vs := [(0, (.agg #[.int .i64 (x.id), .int .i64 (x.due)]))]) rfl (fun _ => by kernel_rfl)) ?_
    rintro _ w32 ⟨rfl, hb33, hk34⟩
    have ka35 := (Kp.then0 ka30 hk34)
    have ks36 : Kp (· = g.ob) w27 w32 := (Kp.then0 (Kp.refl _ _) hk34)
    have hel37 : Elts Thing.cs 2 w32 w27.heap.size 0 [x] := Own.all (T := 164) ⟨hb33, fun _ => rfl⟩
    refine ⟨ks36, ?_⟩
    refine o_one ?_
    refine c_e rfl (e_append0 so151 ti164 rfl (by decide) (fun _ => rfl) rfl rfl rfl hel37 one_thing (by simp) (by simp [maxLen]) (by simp)) ?_
    rintro _ w40 ⟨gb39, cap38, rfl, hC41, rfl, hk42⟩
    have ka43 := (Kp.then0 ka35 hk42)
    have ks44 := (Kp.then0 ks36 hk42)
    refine ⟨ks44, ?_⟩
    refine o_y rfl (y_nil rfl) ?_
    refine o_y rfl (y_fld fo153_0 rfl) ?_
    refine o_one ?_
    have hb45 := (hk42.get0 (hk34.get0 hb31))
    refine c_e0 rfl (e_storeV (cs' := #[(.slice (some ⟨w32.heap.size, 0, none⟩) 1 cap38), (.map (some g.mb))]) [(.slice (some ⟨w32.heap.size, 0, none⟩) 1 cap38)] rfl (v := (.slice (some ⟨w32.heap.size, 0, none⟩) 1 cap38)) rfl rfl sz151 hb45 rfl rfl rfl) ?_
    rintro _ w46 ⟨hb47, hk48⟩
    have ka49 := (Kp.trans ka43 hk48 (fun _ _ e => (fun e => (.inl e)) e))
    have ks50 := (Kp.trans ks44 hk48 (fun _ _ e => e))
    refine ⟨ks50, ?_⟩
    refine o_done (hend _ _ [] trivial ?_)
    have hf51 := (hC41.kp hk48 (Nat.ne_of_gt (nt (nt (lt_of_get hb31) hk34.size) (Nat.le_refl _))))
    have hf52 := ((((hm21.kp hk29 id).kp hk34 id).kp hk42 id).kp hk48 (Ne.symm hn2))
    have hz53 := (nl (nl (nl (nl (nl hk6.size hk10.size) hk17.size) hk22.size) hk29.size) hk34.size)
    exact ⟨⟨_, _, rfl, ⟨hb47, hf51, hf52, (Nat.ne_of_lt (nt (nt (lt_of_get hb31) hk34.size) (Nat.le_refl _))), rfl, by omega⟩, PosOK.nil.push rfl, .inr (hz53)⟩, ka49⟩
  · refine c_e rfl (e_buildSlice (cs := #[(Vi (x.id)), (Vi (x.due))]) (e := 164) (vs := [(0, (.agg #[.int .i64 (x.id), .int .i64 (x.due)]))]) rfl (fun _ => by kernel_rfl)) ?_
    rintro _ w54 ⟨rfl, hb55, hk56⟩
    have ka57 := (Kp.then0 ka30 hk56)
    have ks58 : Kp (· = g.ob) w27 w54 := (Kp.then0 (Kp.refl _ _) hk56)
    have hel59 : Elts Thing.cs 2 w54 w27.heap.size 0 [x] := Own.all (T := 164) ⟨hb55, fun _ => rfl⟩
    refine ⟨ks58, ?_⟩
    refine o_one ?_
    have hb60 := (hk56.get0 (hk29.get0 (hk22.get (hk17.get0 (hk10.get (hk6.get0 hb0) (Nat.ne_of_lt (nt (lt_of_get hb0) (Nat.le_refl _))))) hn2)))
    refine c_e rfl (R := fun v_ w_ => v_ = (.slice none 0 0) ∧ w54 = w_) (Eff.of_yld (y_load (v := (.slice none 0 0)) rfl (rd_sc sc151 (On.now hb60) rfl)) ⟨rfl, rfl⟩) ?_
    rintro _ _ ⟨rfl, rfl⟩
    refine ⟨ks58, ?_⟩
    refine o_one ?_
    refine c_e rfl (e_append0 so151 ti164 rfl (by decide) (fun _ => rfl) rfl rfl rfl hel59 one_thing (by simp) (by simp [maxLen]) (by simp)) ?_
    rintro _ w63 ⟨gb62, cap61, rfl, hC64, rfl, hk65⟩
    have ka66 := (Kp.then0 ka57 hk65)
    have ks67 := (Kp.then0 ks58 hk65)
    refine ⟨ks67, ?_⟩
    refine o_y rfl (y_nil rfl) ?_
    refine o_y rfl (y_fld fo153_0 rfl) ?_
    refine o_one ?_
    have hb68 := (hk65.get0 hb60)
    refine c_e0 rfl (e_storeV (cs' := #[(.slice (some ⟨w54.heap.size, 0, none⟩) 1 cap61), (.map (some g.mb))]) [(.slice (some ⟨w54.heap.size, 0, none⟩) 1 cap61)] rfl (v := (.slice (some ⟨w54.heap.size, 0, none⟩) 1 cap61)) rfl rfl sz151 hb68 rfl rfl rfl) ?_
    rintro _ w69 ⟨hb70, hk71⟩
    have ka72 := (Kp.trans ka66 hk71 (fun _ _ e => (fun e => (.inl e)) e))
    have ks73 := (Kp.trans ks67 hk71 (fun _ _ e => e))
    refine ⟨ks73, ?_⟩
    refine o_done (hend _ _ [] trivial ?_)
    have hf74 := (hC64.kp hk71 (Nat.ne_of_gt (nt (lt_of_get hb60) (Nat.le_refl _))))
    have hf75 := ((((hm21.kp hk29 id).kp hk56 id).kp hk65 id).kp hk71 (Ne.symm hn2))
    have hz76 := (nl (nl (nl (nl (nl hk6.size hk10.size) hk17.size) hk22.size) hk29.size) hk56.size)
    exact ⟨⟨_, _, rfl, ⟨hb70, hf74, hf75, (Nat.ne_of_lt (nt (lt_of_get hb60) (Nat.le_refl _))), rfl, by omega⟩, PosOK.nil.push rfl, .inr (hz76)⟩, ka72⟩

theorem opush_spec {g : OG} {rb cap n : Nat} {l : List Thing} {m : List (Int × Int)} {w : World} (h : OAt g rb cap n l m w) (hp : PosOK l m) (x : Thing) (hx : aget m x.id = none) (hi : inI x.id) (hc : n ≤ 1000000) : Rets Tryd.prog 178 #[(.pointer (some ⟨g.ob, 0, none⟩)), (.iface 164 (.agg #[.int .i64 (x.id), .int .i64 (x.due)]))] w fun v w' => (∃ rb' cap', v = .tuple #[] ∧ PRes g rb n l w rb' cap' (l ++ [x]) (m ++ [(x.id, ((n : Nat) : Int))]) w') ∧ Kp (fun k => k = g.ob ∨ k = rb ∨ k = g.mb) w w' := by
  refine enter Tryd.func178 rfl Tryd.ntmps178 rfl fun Q hret hend E hE => ?_
  have g1 : E 0 = (Vp g.ob 0) := hE 0
  have g2 : E 1 = (.iface 164 (.agg #[.int .i64 (x.id), .int .i64 (x.due)])) := hE 1
  clear hE
  have hb0 := h.blk; have hr0 := h.row; have hm0 := h.map; have hln := h.len; have hbg := h.big; have hn1 := h.ne; have hn2 : g.ob ≠ g.mb := blk_ne_map h.blk h.map; have hn3 : rb ≠ g.mb := Elts.ne_map h.row.elts h.map
  have hpm := hp.push hx
  refine seq fun K3 hK3 => ?_
  refine reg ?_
  refine s_y (y_move (v := (.iface 164 (.agg #[.int .i64 (x.id), .int .i64 (x.due)]))) g2) rfl ?_
  refine s_y (y_assert Tryd.underlying164 (by intro _ h; cases h) rfl) rfl ?_
  refine s_e (e_alloc ze164) rfl ?_
  rintro _ w4 ⟨rfl, hb5, hk6⟩
  have ka7 : Kp (fun k => k = g.ob ∨ k = rb ∨ k = g.mb) w w4 := (Kp.then0 (Kp.refl _ _) hk6)
  refine s_e0 (e_storeV (cs' := #[(Vi (x.id)), (Vi (x.due))]) [(Vi (x.id)), (Vi (x.due))] rfl (v := (.agg #[.int .i64 (x.id), .int .i64 (x.due)])) rfl rfl sz164 hb5 rfl rfl rfl) ?_
  rintro _ w8 ⟨hb9, hk10⟩
  have ka11 := (Kp.fresh ka7 hk10 fun _ e => nl (nl (Nat.le_refl _) (Nat.le_refl _)) (Nat.le_of_eq e.symm))
  refine s_nil (hK3 _ _ (genC [(0, (Vp g.ob 0)), (4, (Vp w.heap.size 0))] ⟨g1, rfl, trivial⟩ ?_))
  clear hK3; rintro E ⟨g12, g13, -⟩
  refine seq fun K14 hK14 => ?_
  refine regD (· = g.mb) (.take 0 (.take 1 (.take 2 (.take 3 (.take 4 (.take 5 (.take 6 (.take 7 (.take 8 (.take 9 (.take 10 (.one 11 .done)))))))))))) mixed (by kernel_rfl) fun w15 hh16 hk17 => ?_
  have ka18 := (Kp.then0 ka11 hk17)
  refine o_y rfl (y_move (v := (Vp g.ob 0)) g12) ?_
  refine o_y rfl (y_nil rfl) ?_
  refine o_y rfl (y_fld fo153_1 rfl) ?_
  refine o_y rfl (y_load (v := (.map (some g.mb))) rfl (rd_sc sc85 (On.kp (hk17.get0 (hk10.get (hk6.get0 hb0) (Nat.ne_of_lt (nt (lt_of_get hb0) (Nat.le_refl _))))) hn2) rfl)) ?_
  refine o_y rfl (y_fld fo164_0 g13) ?_
  refine o_y rfl (y_load (v := (Vi (x.id))) rfl (rd_sc sc3 (On.kp (hk17.get0 hb9) (Nat.ne_of_gt (nt (hm0.lt) (Nat.le_refl _)))) rfl)) ?_
  refine o_y rfl (y_move (v := (Vp g.ob 0)) g12) ?_
  refine o_y rfl (y_nil rfl) ?_
  refine o_y rfl (y_fld fo153_0 rfl) ?_
  refine o_y rfl (y_load (v := (.slice (some ⟨rb, 0, none⟩) n cap)) rfl (rd_sc sc151 (On.kp (hk17.get0 (hk10.get (hk6.get0 hb0) (Nat.ne_of_lt (nt (lt_of_get hb0) (Nat.le_refl _))))) hn2) rfl)) ?_
  refine o_y rfl (y_lenS so151 rfl) ?_
  refine o_one ?_
  have hf19 := (((hm0.kp hk6 id).kp hk10 (Nat.ne_of_lt (nt (hm0.lt) (Nat.le_refl _)))).kp hk17 id)
  refine c_e0 rfl (e_mapPut kf3 Tryd.underlying85 hf19 rfl rfl (v := ((n : Nat) : Int)) rfl hi hx) ?_
  rintro _ w20 ⟨hm21, hk22⟩
  have ka23 := (Kp.trans ka18 hk22 (fun _ _ e => (fun e => (.inr (.inr e))) e))
  have ks24 : Kp (· = g.mb) w15 w20 := (Kp.trans (Kp.refl _ _) hk22 (fun _ _ e => e))
  refine ⟨ks24, ?_⟩
  refine o_done (hK14 _ _ (genC [(0, (Vp g.ob 0)), (4, (Vp w.heap.size 0))] ⟨g12, g13, trivial⟩ ?_))
  clear hK14; rintro E ⟨g25, g26, -⟩
  refine regD (fun k => k = g.ob ∨ k = rb) (.take 0 (.take 1 (.take 2 (.take 3 (.take 5 (.two 4 (.one 6 (.one 7 (.take 8 (.take 9 (.one 10 .done))))) 6 (.one 4 (.one 7 (.take 8 (.take 9 (.one 10 .done))))))))))) mixed (by kernel_rfl) fun w27 hh28 hk29 => ?_
  have ka30 := (Kp.then0 ka23 hk29)
  refine o_y rfl (y_move (v := (Vp g.ob 0)) g25) ?_
  refine o_y rfl (y_move (v := (Vp g.ob 0)) g25) ?_
  refine o_y rfl (y_nil rfl) ?_
  refine o_y rfl (y_fld fo153_0 rfl) ?_
  refine o_y rfl (y_load (v := (.agg #[.int .i64 (x.id), .int .i64 (x.due)])) g26 (rd_agg (vs := [(Vi (x.id)), (Vi (x.due))]) ag164 (On.kp (hk29.get0 (hk22.get (hk17.get0 hb9) (Nat.ne_of_gt (nt (hm0.lt) (Nat.le_refl _))))) (not_or.2 ⟨(Nat.ne_of_gt (nt (lt_of_get hb0) (Nat.le_refl _))), (Nat.ne_of_gt (nt (hr0.lt) (Nat.le_refl _)))⟩)) (by kernel_rfl) rfl)) ?_
  refine o_two ?_ ?_
  · have hb31 := (hk29.get0 (hk22.get (hk17.get0 (hk10.get (hk6.get0 hb0) (Nat.ne_of_lt (nt (lt_of_get hb0) (Nat.le_refl _))))) hn2))
    refine c_e rfl (R := fun v_ w_ => v_ = (.slice (some ⟨rb, 0, none⟩) n cap) ∧ w27 = w_) (Eff.of_yld (y_load (v := (.slice (some ⟨rb, 0, none⟩) n cap)) rfl (rd_sc sc151 (On.now hb31) rfl)) ⟨rfl, rfl⟩) ?_
    rintro _ _ ⟨rfl, rfl⟩
    refine ⟨(Kp.refl _ _), ?_⟩
    refine o_one ?_
    refine c_e rfl (e_buildSlice (cs := #[(Vi (x.id)), (Vi (x.due))]) (e := 164) (vs := [(0, (.agg #[.int .i64 (x.id), .int .i64 (x.due)]))]) rfl (fun _ => by kernel_rfl)) ?_
    rintro _ w32 ⟨rfl, hb33, hk34⟩
    have ka35 := (Kp.then0 ka30 hk34)
    have ks36 : Kp (fun k => k = g.ob ∨ k = rb) w27 w32 := (Kp.then0 (Kp.refl _ _) hk34)
    have hel37 : Elts Thing.cs 2 w32 w27.heap.size 0 [x] := Own.all (T := 164) ⟨hb33, fun _ => rfl⟩
    refine ⟨ks36, ?_⟩
    refine o_one ?_
    have hf40 := ((((((hr0.kp hk6 id).kp hk10 (Nat.ne_of_lt (nt (hr0.lt) (Nat.le_refl _)))).kp hk17 id).kp hk22 hn3).kp hk29 id).kp hk34 id)
    refine c_e rfl (e_appendC (k := n + 1) so151 ti164 rfl (by decide) rfl (show n = l.length by omega) hf40 rfl rfl hel37 one_thing (by first | (simp; done) | (simp; omega)) (by first | (simp [maxLen]; done) | (simp [maxLen]; omega)) (by simp) (by first | (simp; done) | (simp; omega))) ?_
    rintro _ w41 ⟨gb39, cap38, rfl, hC42, rfl | rfl, hk43⟩
    · have ka44 := (Kp.trans ka35 hk43 (fun _ _ e => (fun e => (.inr (.inl e))) e))
      have ks45 := (Kp.trans ks36 hk43 (fun _ _ e => (fun e => (.inr e)) e))
      refine ⟨ks45, ?_⟩
      refine o_y rfl (y_nil rfl) ?_
      refine o_y rfl (y_fld fo153_0 rfl) ?_
      refine o_one ?_
      have hb46 := (hk43.get (hk34.get0 hb31) hn1)
      refine c_e0 rfl (e_storeV (cs' := #[(.slice (some ⟨rb, 0, none⟩) (n + 1) cap38), (.map (some g.mb))]) [(.slice (some ⟨rb, 0, none⟩) (n + 1) cap38)] rfl (v := (.slice (some ⟨rb, 0, none⟩) (n + 1) cap38)) rfl rfl sz151 hb46 rfl rfl rfl) ?_
      rintro _ w47 ⟨hb48, hk49⟩
      have ka50 := (Kp.trans ka44 hk49 (fun _ _ e => (fun e => (.inl e)) e))
      have ks51 := (Kp.trans ks45 hk49 (fun _ _ e => (fun e => (.inl e)) e))
      refine ⟨ks51, ?_⟩
      refine o_done (hend _ _ [] trivial ?_)
      have hf52 := (hC42.kp hk49 (Ne.symm hn1))
      have hf53 := ((((hm21.kp hk29 id).kp hk34 id).kp hk43 (Ne.symm hn3)).kp hk49 (Ne.symm hn2))
      exact ⟨⟨_, _, rfl, ⟨hb48, hf52, hf53, h.ne, by first | (simp; done) | (simp; omega), by omega⟩, by have h9 := hpm; rw [hln] at h9; exact h9, .inl rfl⟩, ka50⟩
    · have ka54 := (Kp.trans ka35 hk43 (fun _ _ e => (fun e => (.inr (.inl e))) e))
      have ks55 := (Kp.trans ks36 hk43 (fun _ _ e => (fun e => (.inr e)) e))
      refine ⟨ks55, ?_⟩
      refine o_y rfl (y_nil rfl) ?_
      refine o_y rfl (y_fld fo153_0 rfl) ?_
      refine o_one ?_
      have hb56 := (hk43.get (hk34.get0 hb31) hn1)
      refine c_e0 rfl (e_storeV (cs' := #[(.slice (some ⟨w32.heap.size, 0, none⟩) (n + 1) cap38), (.map (some g.mb))]) [(.slice (some ⟨w32.heap.size, 0, none⟩) (n + 1) cap38)] rfl (v := (.slice (some ⟨w32.heap.size, 0, none⟩) (n + 1) cap38)) rfl rfl sz151 hb56 rfl rfl rfl) ?_
      rintro _ w57 ⟨hb58, hk59⟩
      have ka60 := (Kp.trans ka54 hk59 (fun _ _ e => (fun e => (.inl e)) e))
      have ks61 := (Kp.trans ks55 hk59 (fun _ _ e => (fun e => (.inl e)) e))
      refine ⟨ks61, ?_⟩
      refine o_done (hend _ _ [] trivial ?_)
      have hf62 := (hC42.kp hk59 (Nat.ne_of_gt (nt (nt (lt_of_get hb31) hk34.size) (Nat.le_refl _))))
      have hf63 := ((((hm21.kp hk29 id).kp hk34 id).kp hk43 (Ne.symm hn3)).kp hk59 (Ne.symm hn2))
      have hz64 := (nl (nl (nl (nl (nl hk6.size hk10.size) hk17.size) hk22.size) hk29.size) hk34.size)
      exact ⟨⟨_, _, rfl, ⟨hb58, hf62, hf63, (Nat.ne_of_lt (nt (nt (lt_of_get hb31) hk34.size) (Nat.le_refl _))), by first | (simp; done) | (simp; omega), by omega⟩, by have h9 := hpm; rw [hln] at h9; exact h9, .inr (hz64)⟩, ka60⟩
  · refine c_e rfl (e_buildSlice (cs := #[(Vi (x.id)), (Vi (x.due))]) (e := 164) (vs := [(0, (.agg #[.int .i64 (x.id), .int .i64 (x.due)]))]) rfl (fun _ => by kernel_rfl)) ?_
    rintro _ w65 ⟨rfl, hb66, hk67⟩
    have ka68 := (Kp.then0 ka30 hk67)
    have ks69 : Kp (fun k => k = g.ob ∨ k = rb) w27 w65 := (Kp.then0 (Kp.refl _ _) hk67)
    have hel70 : Elts Thing.cs 2 w65 w27.heap.size 0 [x] := Own.all (T := 164) ⟨hb66, fun _ => rfl⟩
    refine ⟨ks69, ?_⟩
    refine o_one ?_
    have hb71 := (hk67.get0 (hk29.get0 (hk22.get (hk17.get0 (hk10.get (hk6.get0 hb0) (Nat.ne_of_lt (nt (lt_of_get hb0) (Nat.le_refl _))))) hn2)))
    refine c_e rfl (R := fun v_ w_ => v_ = (.slice (some ⟨rb, 0, none⟩) n cap) ∧ w65 = w_) (Eff.of_yld (y_load (v := (.slice (some ⟨rb, 0, none⟩) n cap)) rfl (rd_sc sc151 (On.now hb71) rfl)) ⟨rfl, rfl⟩) ?_
    rintro _ _ ⟨rfl, rfl⟩
    refine ⟨ks69, ?_⟩
    refine o_one ?_
    have hf74 := ((((((hr0.kp hk6 id).kp hk10 (Nat.ne_of_lt (nt (hr0.lt) (Nat.le_refl _)))).kp hk17 id).kp hk22 hn3).kp hk29 id).kp hk67 id)
    refine c_e rfl (e_appendC (k := n + 1) so151 ti164 rfl (by decide) rfl (show n = l.length by omega) hf74 rfl rfl hel70 one_thing (by first | (simp; done) | (simp; omega)) (by first | (simp [maxLen]; done) | (simp [maxLen]; omega)) (by simp) (by first | (simp; done) | (simp; omega))) ?_
    rintro _ w75 ⟨gb73, cap72, rfl, hC76, rfl | rfl, hk77⟩
    · have ka78 := (Kp.trans ka68 hk77 (fun _ _ e => (fun e => (.inr (.inl e))) e))
      have ks79 := (Kp.trans ks69 hk77 (fun _ _ e => (fun e => (.inr e)) e))
      refine ⟨ks79, ?_⟩
      refine o_y rfl (y_nil rfl) ?_
      refine o_y rfl (y_fld fo153_0 rfl) ?_
      refine o_one ?_
      have hb80 := (hk77.get hb71 hn1)
      refine c_e0 rfl (e_storeV (cs' := #[(.slice (some ⟨rb, 0, none⟩) (n + 1) cap72), (.map (some g.mb))]) [(.slice (some ⟨rb, 0, none⟩) (n + 1) cap72)] rfl (v := (.slice (some ⟨rb, 0, none⟩) (n + 1) cap72)) rfl rfl sz151 hb80 rfl rfl rfl) ?_
      rintro _ w81 ⟨hb82, hk83⟩
      have ka84 := (Kp.trans ka78 hk83 (fun _ _ e => (fun e => (.inl e)) e))
      have ks85 := (Kp.trans ks79 hk83 (fun _ _ e => (fun e => (.inl e)) e))
      refine ⟨ks85, ?_⟩
      refine o_done (hend _ _ [] trivial ?_)
      have hf86 := (hC76.kp hk83 (Ne.symm hn1))
      have hf87 := ((((hm21.kp hk29 id).kp hk67 id).kp hk77 (Ne.symm hn3)).kp hk83 (Ne.symm hn2))
      exact ⟨⟨_, _, rfl, ⟨hb82, hf86, hf87, h.ne, by first | (simp; done) | (simp; omega), by omega⟩, by have h9 := hpm; rw [hln] at h9; exact h9, .inl rfl⟩, ka84⟩
    · have ka88 := (Kp.trans ka68 hk77 (fun _ _ e => (fun e => (.inr (.inl e))) e))
      have ks89 := (Kp.trans ks69 hk77 (fun _ _ e => (fun e => (.inr e)) e))
      refine ⟨ks89, ?_⟩
      refine o_y rfl (y_nil rfl) ?_
      refine o_y rfl (y_fld fo153_0 rfl) ?_
      refine o_one ?_
      have hb90 := (hk77.get hb71 hn1)
      refine c_e0 rfl (e_storeV (cs' := #[(.slice (some ⟨w65.heap.size, 0, none⟩) (n + 1) cap72), (.map (some g.mb))]) [(.slice (some ⟨w65.heap.size, 0, none⟩) (n + 1) cap72)] rfl (v := (.slice (some ⟨w65.heap.size, 0, none⟩) (n + 1) cap72)) rfl rfl sz151 hb90 rfl rfl rfl) ?_
      rintro _ w91 ⟨hb92, hk93⟩
      have ka94 := (Kp.trans ka88 hk93 (fun _ _ e => (fun e => (.inl e)) e))
      have ks95 := (Kp.trans ks89 hk93 (fun _ _ e => (fun e => (.inl e)) e))
      refine ⟨ks95, ?_⟩
      refine o_done (hend _ _ [] trivial ?_)
      have hf96 := (hC76.kp hk93 (Nat.ne_of_gt (nt (lt_of_get hb71) (Nat.le_refl _))))
      have hf97 := ((((hm21.kp hk29 id).kp hk67 id).kp hk77 (Ne.symm hn3)).kp hk93 (Ne.symm hn2))
      have hz98 := (nl (nl (nl (nl (nl hk6.size hk10.size) hk17.size) hk22.size) hk29.size) hk67.size)
      exact ⟨⟨_, _, rfl, ⟨hb92, hf96, hf97, (Nat.ne_of_lt (nt (lt_of_get hb71) (Nat.le_refl _))), by first | (simp; done) | (simp; omega), by omega⟩, by have h9 := hpm; rw [hln] at h9; exact h9, .inr (hz98)⟩, ka94⟩

theorem opop_spec {g : OG} {rb cap n : Nat} {l : List Thing} {m : List (Int × Int)} {w : World} (h : OAt g rb cap (n + 1) l m w) (hp : PosOK l m) : Rets Tryd.prog 177 #[(.pointer (some ⟨g.ob, 0, none⟩))] w fun v w' => v = .iface 164 (.agg (ix l n).cs.toArray) ∧ OAt g rb cap n (l.take n) (adel m (ix l n).id) w' ∧ Kp (fun b => b = g.ob ∨ b = g.mb) w w' := by
  refine enter Tryd.func177 rfl Tryd.ntmps177 rfl fun Q hret hend E hE => ?_
  have g1 : E 0 = (Vp g.ob 0) := hE 0
  clear hE
  have hb0 := h.blk; have hr0 := h.row; have hm0 := h.map; have hln := h.len; have hbg := h.big; have hn1 := h.ne; have hn2 : g.ob ≠ g.mb := blk_ne_map h.blk h.map; have hn3 : rb ≠ g.mb := Elts.ne_map h.row.elts h.map; have hrc := hr0.le; have hnl : n < l.length := (by omega); have hg9 : inI (ix l n).id := hm0.goods _ (aget_mem (hp.fwd n hnl))
  refine seq fun K2 hK2 => ?_
  refine reg ?_
  refine s_y (y_assign (v := Go.Value.nilIface) rfl) rfl ?_
  refine s_nil (hK2 _ _ (genC [(0, (Vp g.ob 0))] ⟨g1, trivial⟩ ?_))
  clear hK2; rintro E ⟨g3, -⟩
  refine seq fun K4 hK4 => ?_
  refine reg ?_
  refine s_y (y_move (v := (Vp g.ob 0)) g3) rfl ?_
  refine s_y (y_nil rfl) rfl ?_
  refine s_y (y_fld fo153_0 rfl) rfl ?_
  refine s_y (y_load (v := (.slice (some ⟨rb, 0, none⟩) (n + 1) cap)) rfl (rd_sc sc151 (On.now hb0) rfl)) rfl ?_
  refine s_y (y_lenS so151 rfl) rfl ?_
  refine s_y (y_sub rfl rfl (c := ((n : Nat) : Int)) (by omega) (by omega)) rfl ?_
  refine s_y (y_assign (v := (Vi (((n : Nat) : Int)))) rfl) rfl ?_
  refine s_nil (hK4 _ _ (genC [(0, (Vp g.ob 0)), (3, (Vi (((n : Nat) : Int))))] ⟨g3, rfl, trivial⟩ ?_))
  clear hK4; rintro E ⟨g5, g6, -⟩
  refine seq fun K7 hK7 => ?_
  refine reg ?_
  refine s_y (y_move (v := (Vp g.ob 0)) g5) rfl ?_
  refine s_y (y_nil rfl) rfl ?_
  refine s_y (y_fld fo153_0 rfl) rfl ?_
  refine s_y (y_load (v := (.slice (some ⟨rb, 0, none⟩) (n + 1) cap)) rfl (rd_sc sc151 (On.now hb0) rfl)) rfl ?_
  refine s_y (y_move (v := (Vi (((n : Nat) : Int)))) g6) rfl ?_
  refine s_y (y_idx so151 sz164 rfl (i := n) rfl (by omega)) rfl ?_
  refine s_y (y_load (v := (.agg #[.int .i64 ((ix l n).id), .int .i64 ((ix l n).due)])) rfl (rd_el ag164 (EltsOn.now (OwnC.elts hr0)) (some_ix hnl) (vs := [(Vi ((ix l n).id)), (Vi ((ix l n).due))]) rfl)) rfl ?_
  refine s_e (e_alloc ze164) rfl ?_
  rintro _ w8 ⟨rfl, hb9, hk10⟩
  have ka11 : Kp (fun k => k = g.ob ∨ k = g.mb) w w8 := (Kp.then0 (Kp.refl _ _) hk10)
  refine s_e0 (e_storeV (cs' := #[(Vi ((ix l n).id)), (Vi ((ix l n).due))]) [(Vi ((ix l n).id)), (Vi ((ix l n).due))] rfl (v := (.agg #[.int .i64 ((ix l n).id), .int .i64 ((ix l n).due)])) rfl rfl sz164 hb9 rfl rfl rfl) ?_
  rintro _ w12 ⟨hb13, hk14⟩
  have ka15 := (Kp.fresh ka11 hk14 fun _ e => nl (nl (Nat.le_refl _) (Nat.le_refl _)) (Nat.le_of_eq e.symm))
  refine s_nil (hK7 _ _ (genC [(0, (Vp g.ob 0)), (3, (Vi (((n : Nat) : Int)))), (4, (Vp w.heap.size 0))] ⟨g5, g6, rfl, trivial⟩ ?_))
  clear hK7; rintro E ⟨g16, g17, g18, -⟩
  refine seq fun K19 hK19 => ?_
  refine reg ?_
  refine s_y (y_move (v := (Vp g.ob 0)) g16) rfl ?_
  refine s_y (y_move (v := (Vp g.ob 0)) g16) rfl ?_
  refine s_y (y_nil rfl) rfl ?_
  refine s_y (y_fld fo153_0 rfl) rfl ?_
  have hb20 := (hk14.get (hk10.get0 hb0) (Nat.ne_of_lt (nt (lt_of_get hb0) (Nat.le_refl _))))
  refine s_y (y_load (v := (.slice (some ⟨rb, 0, none⟩) (n + 1) cap)) rfl (rd_sc sc151 (On.now hb20) rfl)) rfl ?_
  refine s_y (y_move (v := (Vi (((n : Nat) : Int)))) g17) rfl ?_
  refine s_y (y_slice0 so151 sz164 rfl (h := n) rfl (by omega)) rfl ?_
  refine s_y (y_nil rfl) rfl ?_
  refine s_y (y_fld fo153_0 rfl) rfl ?_
  refine s_e0 (e_storeV (cs' := #[(.slice (some ⟨rb, 0, none⟩) n cap), (.map (some g.mb))]) [(.slice (some ⟨rb, 0, none⟩) n cap)] rfl (v := (.slice (some ⟨rb, 0, none⟩) n cap)) rfl rfl sz151 hb20 rfl rfl rfl) ?_
  rintro _ w21 ⟨hb22, hk23⟩
  have ka24 := (Kp.trans ka15 hk23 (fun _ _ e => (fun e => (.inl e)) e))
  refine s_nil (hK19 _ _ (genC [(0, (Vp g.ob 0)), (4, (Vp w.heap.size 0))] ⟨g16, g18, trivial⟩ ?_))
  clear hK19; rintro E ⟨g25, g26, -⟩
  refine seq fun K27 hK27 => ?_
  refine regD (· = g.mb) (.take 0 (.take 1 (.take 2 (.take 3 (.take 4 (.take 5 (.one 6 .done))))))) mixed (by kernel_rfl) fun w28 hh29 hk30 => ?_
  have ka31 := (Kp.then0 ka24 hk30)
  refine o_y rfl (y_move (v := (Vp g.ob 0)) g25) ?_
  refine o_y rfl (y_nil rfl) ?_
  refine o_y rfl (y_fld fo153_1 rfl) ?_
  refine o_y rfl (y_load (v := (.map (some g.mb))) rfl (rd_sc sc85 (On.kp (hk30.get0 hb22) hn2) rfl)) ?_
  refine o_y rfl (y_fld fo164_0 g26) ?_
  refine o_y rfl (y_load (v := (Vi ((ix l n).id))) rfl (rd_sc sc3 (On.kp (hk30.get0 (hk23.get hb13 (Nat.ne_of_gt (nt (lt_of_get hb0) (Nat.le_refl _))))) (Nat.ne_of_gt (nt (hm0.lt) (Nat.le_refl _)))) rfl)) ?_
  refine o_one ?_
  have hf32 := ((((hm0.kp hk10 id).kp hk14 (Nat.ne_of_lt (nt (hm0.lt) (Nat.le_refl _)))).kp hk23 (Ne.symm hn2)).kp hk30 id)
  refine c_e0 rfl (e_delete kf3 Tryd.underlying85 hf32 rfl rfl hg9) ?_
  rintro _ w33 ⟨hm34, hk35⟩
  have ka36 := (Kp.trans ka31 hk35 (fun _ _ e => (fun e => (.inr e)) e))
  have ks37 : Kp (· = g.mb) w28 w33 := (Kp.trans (Kp.refl _ _) hk35 (fun _ _ e => e))
  refine ⟨ks37, ?_⟩
  refine o_done (hK27 _ _ (genC [(4, (Vp w.heap.size 0))] ⟨g26, trivial⟩ ?_))
  clear hK27; rintro E ⟨g38, -⟩
  refine seq fun K39 hK39 => ?_
  refine reg ?_
  have hb40 := (hk35.get (hk30.get0 (hk23.get hb13 (Nat.ne_of_gt (nt (lt_of_get hb0) (Nat.le_refl _))))) (Nat.ne_of_gt (nt (hm0.lt) (Nat.le_refl _))))
  refine s_y (y_load (v := (.agg #[.int .i64 ((ix l n).id), .int .i64 ((ix l n).due)])) g38 (rd_agg (vs := [(Vi ((ix l n).id)), (Vi ((ix l n).due))]) ag164 (On.now hb40) (by kernel_rfl) rfl)) rfl ?_
  refine s_y (y_iface Tryd.underlying164 (by intro _ h; cases h) (v := (.agg #[.int .i64 ((ix l n).id), .int .i64 ((ix l n).due)])) rfl) rfl ?_
  refine s_y (y_assign (v := (.iface 164 (.agg #[.int .i64 ((ix l n).id), .int .i64 ((ix l n).due)]))) rfl) rfl ?_
  refine s_nil (hK39 _ _ (genC [(2, (.iface 164 (.agg #[.int .i64 ((ix l n).id), .int .i64 ((ix l n).due)])))] ⟨rfl, trivial⟩ ?_))
  clear hK39; rintro E ⟨g41, -⟩
  refine ret (hret _ _ [(.iface 164 (.agg #[.int .i64 ((ix l n).id), .int .i64 ((ix l n).due)]))] ⟨g41, trivial⟩ ?_)
  have hb42 := (hk35.get (hk30.get0 hb22) hn2)
  have hf43 := (((((hr0.kp hk10 id).kp hk14 (Nat.ne_of_lt (nt (hr0.lt) (Nat.le_refl _)))).kp hk23 (Ne.symm hn1)).kp hk30 id).kp hk35 hn3)
  exact ⟨rfl, ⟨hb42, OwnC.take hf43 n, hm34, h.ne, by first | (simp; done) | (simp; omega), by omega⟩, ka36⟩

end Go.Proofs.YtdcnblafepgheaaDoor
