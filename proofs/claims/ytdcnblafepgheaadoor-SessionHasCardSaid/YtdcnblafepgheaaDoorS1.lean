/-
  Written by a program (wip/walks).
-/
import Derived.Test.YtdcnblafepgheaaDoorDom
import Derived.Test.YtdcnblafepgheaaDoorV8
namespace Go.Proofs.YtdcnblafepgheaaDoor
open Go Go.V
set_option maxRecDepth 100000
structure OG where
  (ob mb : Nat)
/-- the order: its row, of n things, with room for cap; where each stands -/
structure OAt (g : OG) (rb cap n : Nat) (l : List Thing) (m : List (Int × Int)) (w : World) : Prop where
  blk : Blk w g.ob #[.slice (some ⟨rb, 0, none⟩) n cap, .map (some g.mb)] 153
  row : OwnC Thing.cs 2 w rb 164 cap l
  map : MapAt (fun n : Int => .int .i64 n) (fun n : Int => Value.int .i64 n) inI w g.mb m
  ne : g.ob ≠ rb
  len : l.length = n
  big : n ≤ 4611686018427387900
theorem OAt.kp {g : OG} {rb cap n : Nat} {l : List Thing} {m : List (Int × Int)} {w w' : World} (h : OAt g rb cap n l m w) {F : Nat → Prop} (k : Kp F w w') (h1 : ¬ F g.ob) (h2 : ¬ F rb) (h3 : ¬ F g.mb) : OAt g rb cap n l m w' :=
  ⟨k.get h.blk h1, h.row.kp k h2, h.map.kp k h3, h.ne, h.len, h.big⟩
theorem OAt.k0 {g : OG} {rb cap n : Nat} {l : List Thing} {m : List (Int × Int)} {w w' : World} (h : OAt g rb cap n l m w) (k : K0 w w') : OAt g rb cap n l m w' := h.kp k id id id
theorem quo_par (j : Nat) : ((j : Int) - 1).tdiv 2 = (((j - 1) / 2 : Nat) : Int) := by
  cases j with
  | zero => decide
  | succ j => rw [show ((j + 1 : Nat) : Int) - 1 = (j : Int) by omega, show j + 1 - 1 = j by omega]; rw [Int.ofNat_tdiv]; rfl
theorem kids {k i : Nat} (h0 : 0 < k) (h : (k - 1) / 2 = i) : k = 2 * i + 1 ∨ k = 2 * i + 1 + 1 := by omega
theorem hoA {l : List Thing} {N i : Nat} (h : ahd (ix l (2 * i + 1 + 1)) (ix l (2 * i + 1))) : ∀ k, 0 < k → k < N → (k - 1) / 2 = i → ¬ ahd (ix l k) (ix l (2 * i + 1 + 1)) := fun k h0 _ hk => by
  rcases kids h0 hk with rfl | rfl
  · exact ahd_asymm h
  · exact nahd_irrefl _
theorem hoB {l : List Thing} {N i : Nat} (h : 2 * i + 1 + 1 < N → ¬ ahd (ix l (2 * i + 1 + 1)) (ix l (2 * i + 1))) : ∀ k, 0 < k → k < N → (k - 1) / 2 = i → ¬ ahd (ix l k) (ix l (2 * i + 1)) := fun k h0 hN hk => by
  rcases kids h0 hk with rfl | rfl
  · exact nahd_irrefl _
  · exact h hN
theorem hcC {l : List Thing} {N i j : Nat} (ho : ∀ k, 0 < k → k < N → (k - 1) / 2 = i → ¬ ahd (ix l k) (ix l j)) (h : ¬ ahd (ix l j) (ix l i)) : ∀ k, 0 < k → k < N → (k - 1) / 2 = i → ¬ ahd (ix l k) (ix l i) := fun k h0 hN hk => nahd_trans h (ho k h0 hN hk)
theorem swp_drop {l : List Thing} {i j N : Nat} (hi : i < N) (hj : j < N) : (swpL l i j).drop N = l.drop N := by
  unfold swpL; rw [List.drop_set_of_lt hj, List.drop_set_of_lt hi]
structure HRes (g : OG) (rb cap n : Nat) (l : List Thing) (N : Nat) (w : World) (l' : List Thing) (m' : List (Int × Int)) (w' : World) : Prop where
  o : OAt g rb cap n l' m' w'
  pos : PosOK l' m'
  perm : l'.Perm l
  drop : l'.drop N = l.drop N
  kp : Kp (fun k => k = rb ∨ k = g.mb) w w'

theorem met_Len : Met Tryd.prog 150 "Len" 94 := fun _ _ _ => by kernel_rfl
theorem met_Less : Met Tryd.prog 150 "Less" 176 := fun _ _ _ => by kernel_rfl
theorem met_Swap : Met Tryd.prog 150 "Swap" 179 := fun _ _ _ => by kernel_rfl
theorem met_Push : Met Tryd.prog 150 "Push" 178 := fun _ _ _ => by kernel_rfl
theorem met_Pop : Met Tryd.prog 150 "Pop" 177 := fun _ _ _ => by kernel_rfl
theorem ahead_spec (a b : Thing) (w : World) : Rets Tryd.prog 180 #[(.agg #[.int .i64 (a.id), .int .i64 (a.due)]), (.agg #[.int .i64 (b.id), .int .i64 (b.due)])] w fun v w' => v = .bool (decide (ahd a b)) ∧ K0 w w' := by
  refine enter Tryd.func180 rfl Tryd.ntmps180 rfl fun Q hret hend E hE => ?_
  have g1 : E 0 = (.agg #[.int .i64 (a.id), .int .i64 (a.due)]) := hE 0
  have g2 : E 1 = (.agg #[.int .i64 (b.id), .int .i64 (b.due)]) := hE 1
  clear hE
  refine seq fun K3 hK3 => ?_
  refine reg ?_
  refine s_e (e_box (v := (.agg #[.int .i64 (a.id), .int .i64 (a.due)])) g1) rfl ?_
  rintro _ w4 ⟨rfl, hb5, hk6⟩
  have ka7 : Kp (fun _ => False) w w4 := (Kp.then0 (Kp.refl _ _) hk6)
  refine s_e (e_box (v := (.agg #[.int .i64 (b.id), .int .i64 (b.due)])) g2) rfl ?_
  rintro _ w8 ⟨rfl, hb9, hk10⟩
  have ka11 := (Kp.then0 ka7 hk10)
  refine s_y (y_assign (v := Vf) rfl) rfl ?_
  refine s_nil (hK3 _ _ (genC [(2, (Vp w.heap.size 0)), (3, (Vp w4.heap.size 0))] ⟨rfl, rfl, trivial⟩ ?_))
  clear hK3; rintro E ⟨g12, g13, -⟩
  refine seq fun K14 hK14 => ?_
  refine reg ?_
  refine s_y (y_fld fo164_1 g12) rfl ?_
  have hb15 := (hk10.get0 hb5)
  refine s_y (y_load (v := (Vi (a.due))) rfl (rd_sc sc3 (On.now hb15) rfl)) rfl ?_
  refine s_y (y_fld fo164_1 g13) rfl ?_
  refine s_y (y_load (v := (Vi (b.due))) rfl (rd_sc sc3 (On.now hb9) rfl)) rfl ?_
  refine s_y (y_lss rfl rfl) rfl ?_
  refine s_y (y_move (v := (.bool (decide ((a.due : Int) < b.due)))) rfl) rfl ?_
  by_cases c16 : (a.due : Int) < b.due
  · refine s_no (.no rfl (c := true) (congrArg Value.bool (decide_eq_true c16)) rfl) rfl ?_
    refine s_no (.no rfl (c := true) (congrArg Value.bool (decide_eq_true c16)) rfl) rfl ?_
    refine s_no (.no rfl (c := true) (congrArg Value.bool (decide_eq_true c16)) rfl) rfl ?_
    refine s_no (.no rfl (c := true) (congrArg Value.bool (decide_eq_true c16)) rfl) rfl ?_
    refine s_no (.no rfl (c := true) (congrArg Value.bool (decide_eq_true c16)) rfl) rfl ?_
    refine s_no (.no rfl (c := true) (congrArg Value.bool (decide_eq_true c16)) rfl) rfl ?_
    refine s_no (.off rfl rfl) rfl ?_
    refine s_no (.off rfl rfl) rfl ?_
    refine s_no (.off rfl rfl) rfl ?_
    refine s_no (.off rfl rfl) rfl ?_
    refine s_no (.off rfl rfl) rfl ?_
    refine s_no (.no rfl (c := true) (congrArg Value.bool (decide_eq_true c16)) rfl) rfl ?_
    refine s_y (y_pick_t (congrArg Value.bool (decide_eq_true c16)) (v := Vt) rfl) rfl ?_
    refine s_y (y_assign (v := Vt) rfl) rfl ?_
    refine s_nil (hK14 _ _ (genC [(4, Vt)] ⟨rfl, trivial⟩ ?_))
    clear hK14; rintro E ⟨g17, -⟩
    refine ret (hret _ _ [Vt] ⟨g17, trivial⟩ ?_)
    exact ⟨congrArg Value.bool (decide_eq_true (by unfold ahd; omega)).symm, ka11⟩
  · refine s_gy (.yes rfl (congrArg Value.bool (decide_eq_false c16))) (y_fld fo164_1 g12) rfl ?_
    refine s_gy (.yes rfl (congrArg Value.bool (decide_eq_false c16))) (y_load (v := (Vi (a.due))) rfl (rd_sc sc3 (On.now hb15) rfl)) rfl ?_
    refine s_gy (.yes rfl (congrArg Value.bool (decide_eq_false c16))) (y_fld fo164_1 g13) rfl ?_
    refine s_gy (.yes rfl (congrArg Value.bool (decide_eq_false c16))) (y_load (v := (Vi (b.due))) rfl (rd_sc sc3 (On.now hb9) rfl)) rfl ?_
    refine s_gy (.yes rfl (congrArg Value.bool (decide_eq_false c16))) (y_eql rfl rfl) rfl ?_
    refine s_gy (.yes rfl (congrArg Value.bool (decide_eq_false c16))) (y_move (v := (.bool (decide ((a.due : Int) = b.due)))) rfl) rfl ?_
    by_cases c18 : (a.due : Int) = b.due
    · refine s_gy (.yes rfl (congrArg Value.bool (decide_eq_true c18))) (y_fld fo164_0 g12) rfl ?_
      refine s_gy (.yes rfl (congrArg Value.bool (decide_eq_true c18))) (y_load (v := (Vi (a.id))) rfl (rd_sc sc3 (On.now hb15) rfl)) rfl ?_
      refine s_gy (.yes rfl (congrArg Value.bool (decide_eq_true c18))) (y_fld fo164_0 g13) rfl ?_
      refine s_gy (.yes rfl (congrArg Value.bool (decide_eq_true c18))) (y_load (v := (Vi (b.id))) rfl (rd_sc sc3 (On.now hb9) rfl)) rfl ?_
      refine s_gy (.yes rfl (congrArg Value.bool (decide_eq_true c18))) (y_lss rfl rfl) rfl ?_
      refine s_gy (.yes rfl (congrArg Value.bool (decide_eq_false c16))) (y_pick_t (congrArg Value.bool (decide_eq_true c18)) (v := (.bool (decide ((a.id : Int) < b.id)))) rfl) rfl ?_
      refine s_y (y_pick_f (congrArg Value.bool (decide_eq_false c16)) (v := (.bool (decide ((a.id : Int) < b.id)))) rfl) rfl ?_
      refine s_y (y_assign (v := (.bool (decide ((a.id : Int) < b.id)))) rfl) rfl ?_
      refine s_nil (hK14 _ _ (genC [(4, (.bool (decide ((a.id : Int) < b.id))))] ⟨rfl, trivial⟩ ?_))
      clear hK14; rintro E ⟨g19, -⟩
      refine ret (hret _ _ [(.bool (decide ((a.id : Int) < b.id)))] ⟨g19, trivial⟩ ?_)
      exact ⟨congrArg Value.bool (decide_eq_decide.2 (by unfold ahd; omega)), ka11⟩
    · refine s_no (.no rfl (c := false) (congrArg Value.bool (decide_eq_false c18)) rfl) rfl ?_
      refine s_no (.no rfl (c := false) (congrArg Value.bool (decide_eq_false c18)) rfl) rfl ?_
      refine s_no (.no rfl (c := false) (congrArg Value.bool (decide_eq_false c18)) rfl) rfl ?_
      refine s_no (.no rfl (c := false) (congrArg Value.bool (decide_eq_false c18)) rfl) rfl ?_
      refine s_no (.no rfl (c := false) (congrArg Value.bool (decide_eq_false c18)) rfl) rfl ?_
      refine s_gy (.yes rfl (congrArg Value.bool (decide_eq_false c16))) (y_pick_f (congrArg Value.bool (decide_eq_false c18)) (v := Vf) rfl) rfl ?_
      refine s_y (y_pick_f (congrArg Value.bool (decide_eq_false c16)) (v := Vf) rfl) rfl ?_
      refine s_y (y_assign (v := Vf) rfl) rfl ?_
      refine s_nil (hK14 _ _ (genC [(4, Vf)] ⟨rfl, trivial⟩ ?_))
      clear hK14; rintro E ⟨g20, -⟩
      refine ret (hret _ _ [Vf] ⟨g20, trivial⟩ ?_)
      exact ⟨congrArg Value.bool (decide_eq_false (by unfold ahd; omega)).symm, ka11⟩

theorem olen_spec {g : OG} {rb cap n : Nat} {l : List Thing} {m : List (Int × Int)} {w : World} (h : OAt g rb cap n l m w)  : Rets Tryd.prog 94 #[(.pointer (some ⟨g.ob, 0, none⟩))] w fun v w' => v = .int .i64 (n : Nat) ∧ K0 w w' := by
  refine enter Tryd.func94 rfl Tryd.ntmps94 rfl fun Q hret hend E hE => ?_
  have g1 : E 0 = (Vp g.ob 0) := hE 0
  clear hE
  have hb0 := h.blk; have hr0 := h.row; have hm0 := h.map; have hln := h.len; have hbg := h.big; have hn1 := h.ne; have hn2 : g.ob ≠ g.mb := blk_ne_map h.blk h.map; have hn3 : rb ≠ g.mb := Elts.ne_map h.row.elts h.map
  refine seq fun K2 hK2 => ?_
  refine reg ?_
  refine s_y (y_assign (v := (Vi 0)) rfl) rfl ?_
  refine s_nil (hK2 _ _ (genC [(0, (Vp g.ob 0))] ⟨g1, trivial⟩ ?_))
  clear hK2; rintro E ⟨g3, -⟩
  refine seq fun K4 hK4 => ?_
  refine reg ?_
  refine s_y (y_move (v := (Vp g.ob 0)) g3) rfl ?_
  refine s_y (y_nil rfl) rfl ?_
  refine s_y (y_fld fo153_0 rfl) rfl ?_
  refine s_y (y_load (v := (.slice (some ⟨rb, 0, none⟩) n cap)) rfl (rd_sc sc151 (On.now hb0) rfl)) rfl ?_
  refine s_y (y_lenS so151 rfl) rfl ?_
  refine s_y (y_assign (v := (Vi (((n : Nat) : Int)))) rfl) rfl ?_
  refine s_nil (hK4 _ _ (genC [(2, (Vi (((n : Nat) : Int))))] ⟨rfl, trivial⟩ ?_))
  clear hK4; rintro E ⟨g5, -⟩
  refine ret (hret _ _ [(Vi (((n : Nat) : Int)))] ⟨g5, trivial⟩ ?_)
  exact ⟨rfl, (Kp.refl _ _)⟩

theorem less_spec {g : OG} {rb cap n : Nat} {l : List Thing} {m : List (Int × Int)} {w : World} (h : OAt g rb cap n l m w) (i k : Nat) (hi : i < n) (hk : k < n) : Rets Tryd.prog 176 #[(.pointer (some ⟨g.ob, 0, none⟩)), (.int .i64 (((i : Nat) : Int))), (.int .i64 (((k : Nat) : Int)))] w fun v w' => v = .bool (decide (ahd (ix l i) (ix l k))) ∧ K0 w w' := by
  refine enter Tryd.func176 rfl Tryd.ntmps176 rfl fun Q hret hend E hE => ?_
  have g1 : E 0 = (Vp g.ob 0) := hE 0
  have g2 : E 1 = (Vi (((i : Nat) : Int))) := hE 1
  have g3 : E 2 = (Vi (((k : Nat) : Int))) := hE 2
  clear hE
  have hb0 := h.blk; have hr0 := h.row; have hm0 := h.map; have hln := h.len; have hbg := h.big; have hn1 := h.ne; have hn2 : g.ob ≠ g.mb := blk_ne_map h.blk h.map; have hn3 : rb ≠ g.mb := Elts.ne_map h.row.elts h.map
  have hil : i < l.length := by omega
  have hkl : k < l.length := by omega
  refine seq fun K4 hK4 => ?_
  refine reg ?_
  refine s_y (y_assign (v := Vf) rfl) rfl ?_
  refine s_nil (hK4 _ _ (genC [(0, (Vp g.ob 0)), (1, (Vi (((i : Nat) : Int)))), (2, (Vi (((k : Nat) : Int))))] ⟨g1, g2, g3, trivial⟩ ?_))
  clear hK4; rintro E ⟨g5, g6, g7, -⟩
  refine seq fun K8 hK8 => ?_
  refine regD (fun _ => False) (.take 0 (.take 1 (.take 2 (.take 3 (.take 4 (.take 5 (.take 6 (.take 7 (.take 8 (.take 9 (.take 10 (.take 11 (.take 12 (.take 13 (.one 14 (.take 15 .done)))))))))))))))) mixed (by kernel_rfl) fun w9 hh10 hk11 => ?_
  have ka12 : Kp (fun _ => False) w w9 := (Kp.then0 (Kp.refl _ _) hk11)
  refine o_y rfl (y_move (v := (Vp g.ob 0)) g5) ?_
  refine o_y rfl (y_nil rfl) ?_
  refine o_y rfl (y_fld fo153_0 rfl) ?_
  refine o_y rfl (y_load (v := (.slice (some ⟨rb, 0, none⟩) n cap)) rfl (rd_sc sc151 (On.kp (hk11.get0 hb0) id) rfl)) ?_
  refine o_y rfl (y_move (v := (Vi (((i : Nat) : Int)))) g6) ?_
  refine o_y rfl (y_idx so151 sz164 rfl (i := i) rfl (by omega)) ?_
  refine o_y rfl (y_load (v := (.agg #[.int .i64 ((ix l i).id), .int .i64 ((ix l i).due)])) rfl (rd_el ag164 (EltsOn.kp (OwnC.elts (hr0.kp hk11 id)) id) (some_ix hil) (vs := [(Vi ((ix l i).id)), (Vi ((ix l i).due))]) rfl)) ?_
  refine o_y rfl (y_move (v := (Vp g.ob 0)) g5) ?_
  refine o_y rfl (y_nil rfl) ?_
  refine o_y rfl (y_fld fo153_0 rfl) ?_
  refine o_y rfl (y_load (v := (.slice (some ⟨rb, 0, none⟩) n cap)) rfl (rd_sc sc151 (On.kp (hk11.get0 hb0) id) rfl)) ?_
  refine o_y rfl (y_move (v := (Vi (((k : Nat) : Int)))) g7) ?_
  refine o_y rfl (y_idx so151 sz164 rfl (i := k) rfl (by omega)) ?_
  refine o_y rfl (y_load (v := (.agg #[.int .i64 ((ix l k).id), .int .i64 ((ix l k).due)])) rfl (rd_el ag164 (EltsOn.kp (OwnC.elts (hr0.kp hk11 id)) id) (some_ix hkl) (vs := [(Vi ((ix l k).id)), (Vi ((ix l k).due))]) rfl)) ?_
  refine o_one ?_
  refine c_e rfl (e_call ca180 (args := [(.agg #[.int .i64 ((ix l i).id), .int .i64 ((ix l i).due)]), (.agg #[.int .i64 ((ix l k).id), .int .i64 ((ix l k).due)])]) rfl (ahead_spec (ix l i) (ix l k) _)) ?_
  rintro _ w13 ⟨rfl, hk14⟩
  have ka15 := (Kp.then0 ka12 hk14)
  have ks16 : Kp (fun _ => False) w9 w13 := (Kp.then0 (Kp.refl _ _) hk14)
  refine ⟨ks16, ?_⟩
  refine o_y rfl (y_assign (v := (.bool (decide (ahd (ix l i) (ix l k))))) rfl) ?_
  refine o_done (hK8 _ _ (genC [(6, (.bool (decide (ahd (ix l i) (ix l k)))))] ⟨rfl, trivial⟩ ?_))
  clear hK8; rintro E ⟨g17, -⟩
  refine ret (hret _ _ [(.bool (decide (ahd (ix l i) (ix l k))))] ⟨g17, trivial⟩ ?_)
  exact ⟨rfl, ka15⟩

theorem thereM {l : List Thing} {m : List (Int × Int)} (hp : PosOK l m) {i k : Nat} (hi : i < l.length) (hk : k < l.length) {x : Int} (hx : x = (ix (swpL l i k) i).id ∨ x = (ix (swpL l i k) k).id) : ∃ v, aget m x = some v := by
  have h1 := swpL_perm hi hk
  have hl := swpL_len l i k
  have key : ∀ j, j < l.length → ∃ v, aget m (ix (swpL l i k) j).id = some v := fun j hj => by
    obtain ⟨y, hy, e⟩ := mem_ix (h1.mem_iff.1 (ix_mem (l := swpL l i k) (i := j) (by omega)))
    exact ⟨_, by rw [← e]; exact hp.fwd y hy⟩
  rcases hx with rfl | rfl
  · exact key i hi
  · exact key k hk
theorem there_aset {m : List (Int × Int)} {x : Int} (h : ∃ v, aget m x = some v) (k v : Int) : ∃ u, aget (aset m k v) x = some u := by
  rw [aget_aset]; split
  · exact ⟨v, rfl⟩
  · exact h
theorem thereG {l : List Thing} {m : List (Int × Int)} {w : World} {b : Nat} (hp : PosOK l m) {i k : Nat} (hi : i < l.length) (hk : k < l.length) (hm : MapAt (fun n : Int => .int .i64 n) (fun n : Int => Value.int .i64 n) inI w b m) {x : Int} (hx : x = (ix (swpL l i k) i).id ∨ x = (ix (swpL l i k) k).id) : inI x := by
  obtain ⟨v, hv⟩ := thereM hp hi hk hx
  exact hm.goods _ (aget_mem hv)
theorem swap_spec {g : OG} {rb cap n : Nat} {l : List Thing} {m : List (Int × Int)} {w : World} (h : OAt g rb cap n l m w) (i k : Nat) (hi : i < n) (hk : k < n) (hp : PosOK l m) : Rets Tryd.prog 179 #[(.pointer (some ⟨g.ob, 0, none⟩)), (.int .i64 (((i : Nat) : Int))), (.int .i64 (((k : Nat) : Int)))] w fun v w' => v = .tuple #[] ∧ OAt g rb cap n (swpL l i k) (aset (aset m (ix (swpL l i k) i).id (i : Int)) (ix (swpL l i k) k).id (k : Int)) w' ∧ Kp (fun b => b = rb ∨ b = g.mb) w w' := by
  refine enter Tryd.func179 rfl Tryd.ntmps179 rfl fun Q hret hend E hE => ?_
  have g1 : E 0 = (Vp g.ob 0) := hE 0
  have g2 : E 1 = (Vi (((i : Nat) : Int))) := hE 1
  have g3 : E 2 = (Vi (((k : Nat) : Int))) := hE 2
  clear hE
  have hb0 := h.blk; have hr0 := h.row; have hm0 := h.map; have hln := h.len; have hbg := h.big; have hn1 := h.ne; have hn2 : g.ob ≠ g.mb := blk_ne_map h.blk h.map; have hn3 : rb ≠ g.mb := Elts.ne_map h.row.elts h.map
  have hil : i < l.length := by omega
  have hkl : k < l.length := by omega
  have hsw := PosOK.swap hp hil hkl; have hsi := hsw
  refine seq fun K4 hK4 => ?_
  refine regD (· = rb) (.take 0 (.take 1 (.take 2 (.take 3 (.take 4 (.take 5 (.take 6 (.take 7 (.take 8 (.take 9 (.take 10 (.take 11 (.take 12 (.take 13 (.take 14 (.take 15 (.take 17 (.take 18 (.take 19 (.take 20 (.take 21 (.take 22 (.two 16 (.one 23 (.take 24 (.one 25 (.take 26 (.one 27 .done))))) 23 (.one 16 (.take 24 (.one 25 (.take 26 (.one 27 .done)))))))))))))))))))))))))))) mixed (by kernel_rfl) fun w5 hh6 hk7 => ?_
  have ka8 : Kp (fun k => k = rb ∨ k = g.mb) w w5 := (Kp.then0 (Kp.refl _ _) hk7)
  refine o_y rfl (y_move (v := (Vp g.ob 0)) g1) ?_
  refine o_y rfl (y_nil rfl) ?_
  refine o_y rfl (y_fld fo153_0 rfl) ?_
  refine o_y rfl (y_load (v := (.slice (some ⟨rb, 0, none⟩) n cap)) rfl (rd_sc sc151 (On.kp (hk7.get0 hb0) hn1) rfl)) ?_
  refine o_y rfl (y_move (v := (Vi (((i : Nat) : Int)))) g2) ?_
  refine o_y rfl (y_move (v := (Vp g.ob 0)) g1) ?_
  refine o_y rfl (y_nil rfl) ?_
  refine o_y rfl (y_fld fo153_0 rfl) ?_
  refine o_y rfl (y_load (v := (.slice (some ⟨rb, 0, none⟩) n cap)) rfl (rd_sc sc151 (On.kp (hk7.get0 hb0) hn1) rfl)) ?_
  refine o_y rfl (y_move (v := (Vi (((k : Nat) : Int)))) g3) ?_
  refine o_y rfl (y_move (v := (Vp g.ob 0)) g1) ?_
  refine o_y rfl (y_nil rfl) ?_
  refine o_y rfl (y_fld fo153_0 rfl) ?_
  refine o_y rfl (y_load (v := (.slice (some ⟨rb, 0, none⟩) n cap)) rfl (rd_sc sc151 (On.kp (hk7.get0 hb0) hn1) rfl)) ?_
  refine o_y rfl (y_move (v := (Vi (((k : Nat) : Int)))) g3) ?_
  refine o_y rfl (y_idx so151 sz164 rfl (i := k) rfl (by omega)) ?_
  refine o_y rfl (y_move (v := (Vp g.ob 0)) g1) ?_
  refine o_y rfl (y_nil rfl) ?_
  refine o_y rfl (y_fld fo153_0 rfl) ?_
  refine o_y rfl (y_load (v := (.slice (some ⟨rb, 0, none⟩) n cap)) rfl (rd_sc sc151 (On.kp (hk7.get0 hb0) hn1) rfl)) ?_
  refine o_y rfl (y_move (v := (Vi (((i : Nat) : Int)))) g2) ?_
  refine o_y rfl (y_idx so151 sz164 rfl (i := i) rfl (by omega)) ?_
  refine o_two ?_ ?_
  · have hf9 := (hr0.kp hk7 id)
    refine c_e rfl (R := fun v_ w_ => v_ = (.agg #[.int .i64 ((ix l k).id), .int .i64 ((ix l k).due)]) ∧ w5 = w_) (Eff.of_yld (y_load (v := (.agg #[.int .i64 ((ix l k).id), .int .i64 ((ix l k).due)])) rfl (rd_el ag164 (EltsOn.now (OwnC.elts hf9)) (some_ix hkl) (vs := [(Vi ((ix l k).id)), (Vi ((ix l k).due))]) rfl)) ⟨rfl, rfl⟩) ?_
    rintro _ _ ⟨rfl, rfl⟩
    refine ⟨(Kp.refl _ _), ?_⟩
    refine o_one ?_
    refine c_e rfl (R := fun v_ w_ => v_ = (.agg #[.int .i64 ((ix l i).id), .int .i64 ((ix l i).due)]) ∧ w5 = w_) (Eff.of_yld (y_load (v := (.agg #[.int .i64 ((ix l i).id), .int .i64 ((ix l i).due)])) rfl (rd_el ag164 (EltsOn.now (OwnC.elts hf9)) (some_ix hil) (vs := [(Vi ((ix l i).id)), (Vi ((ix l i).due))]) rfl)) ⟨rfl, rfl⟩) ?_
    rintro _ _ ⟨rfl, rfl⟩
    refine ⟨(Kp.refl _ _), ?_⟩
    refine o_y rfl (y_idx so151 sz164 rfl (i := i) rfl (by omega)) ?_
    refine o_one ?_
    refine c_e0 rfl (e_storeC (y := (ix l k)) rfl rfl sz164 hf9 (by first | omega | (simp only [List.length_set]; omega)) one_thing) ?_
    rintro _ w10 ⟨hC11, hk12⟩
    have ka13 := (Kp.trans ka8 hk12 (fun _ _ e => (fun e => (.inl e)) e))
    have ks14 : Kp (· = rb) w5 w10 := (Kp.trans (Kp.refl _ _) hk12 (fun _ _ e => e))
    refine ⟨ks14, ?_⟩
    refine o_y rfl (y_idx so151 sz164 rfl (i := k) rfl (by omega)) ?_
    refine o_one ?_
    refine c_e0 rfl (e_storeC (y := (ix l i)) rfl rfl sz164 hC11 (by first | omega | (simp only [List.length_set]; omega)) one_thing) ?_
    rintro _ w15 ⟨hC16, hk17⟩
    have ka18 := (Kp.trans ka13 hk17 (fun _ _ e => (fun e => (.inl e)) e))
    have ks19 := (Kp.trans ks14 hk17 (fun _ _ e => e))
    refine ⟨ks19, ?_⟩
    refine o_done (hK4 _ _ (genC [(0, (Vp g.ob 0)), (1, (Vi (((i : Nat) : Int)))), (2, (Vi (((k : Nat) : Int))))] ⟨g1, g2, g3, trivial⟩ ?_))
    clear hK4; rintro E ⟨g20, g21, g22, -⟩
    have hr23 : OwnC Thing.cs 2 w15 rb 164 cap (swpL l i k) := hC16
    have hli : i < (swpL l i k).length := by rw [swpL_len]; omega
    have hlk : k < (swpL l i k).length := by rw [swpL_len]; omega
    refine regD (· = g.mb) (.take 0 (.take 1 (.take 2 (.take 3 (.take 4 (.take 5 (.take 6 (.take 7 (.take 8 (.take 9 (.take 10 (.take 11 (.take 12 (.take 13 (.take 14 (.take 15 (.take 16 (.take 17 (.take 18 (.take 19 (.take 20 (.take 21 (.take 22 (.take 23 (.take 24 (.take 25 (.one 26 (.take 27 (.one 28 (.one 29 (.take 30 (.one 31 .done)))))))))))))))))))))))))))))))) mixed (by kernel_rfl) fun w24 hh25 hk26 => ?_
    have ka27 := (Kp.then0 ka18 hk26)
    refine o_y rfl (y_move (v := (Vp g.ob 0)) g20) ?_
    refine o_y rfl (y_nil rfl) ?_
    refine o_y rfl (y_fld fo153_1 rfl) ?_
    refine o_y rfl (y_load (v := (.map (some g.mb))) rfl (rd_sc sc85 (On.kp (hk26.get0 (hk17.get (hk12.get (hk7.get0 hb0) hn1) hn1)) hn2) rfl)) ?_
    refine o_y rfl (y_move (v := (Vp g.ob 0)) g20) ?_
    refine o_y rfl (y_nil rfl) ?_
    refine o_y rfl (y_fld fo153_0 rfl) ?_
    refine o_y rfl (y_load (v := (.slice (some ⟨rb, 0, none⟩) n cap)) rfl (rd_sc sc151 (On.kp (hk26.get0 (hk17.get (hk12.get (hk7.get0 hb0) hn1) hn1)) hn2) rfl)) ?_
    refine o_y rfl (y_move (v := (Vi (((i : Nat) : Int)))) g21) ?_
    refine o_y rfl (y_idx so151 sz164 rfl (i := i) rfl (by omega)) ?_
    refine o_y rfl (y_fld fo164_0 rfl) ?_
    refine o_y rfl (y_load (v := (Vi ((ix (swpL l i k) i).id))) rfl (rd_ef sc3 (EltsOn.kp (OwnC.elts (hr23.kp hk26 id)) hn3) (some_ix hli) rfl)) ?_
    refine o_y rfl (y_move (v := (Vp g.ob 0)) g20) ?_
    refine o_y rfl (y_nil rfl) ?_
    refine o_y rfl (y_fld fo153_1 rfl) ?_
    refine o_y rfl (y_load (v := (.map (some g.mb))) rfl (rd_sc sc85 (On.kp (hk26.get0 (hk17.get (hk12.get (hk7.get0 hb0) hn1) hn1)) hn2) rfl)) ?_
    refine o_y rfl (y_move (v := (Vp g.ob 0)) g20) ?_
    refine o_y rfl (y_nil rfl) ?_
    refine o_y rfl (y_fld fo153_0 rfl) ?_
    refine o_y rfl (y_load (v := (.slice (some ⟨rb, 0, none⟩) n cap)) rfl (rd_sc sc151 (On.kp (hk26.get0 (hk17.get (hk12.get (hk7.get0 hb0) hn1) hn1)) hn2) rfl)) ?_
    refine o_y rfl (y_move (v := (Vi (((k : Nat) : Int)))) g22) ?_
    refine o_y rfl (y_idx so151 sz164 rfl (i := k) rfl (by omega)) ?_
    refine o_y rfl (y_fld fo164_0 rfl) ?_
    refine o_y rfl (y_load (v := (Vi ((ix (swpL l i k) k).id))) rfl (rd_ef sc3 (EltsOn.kp (OwnC.elts (hr23.kp hk26 id)) hn3) (some_ix hlk) rfl)) ?_
    refine o_y rfl (y_move (v := (Vi (((i : Nat) : Int)))) g21) ?_
    refine o_y rfl (y_move (v := (Vi (((k : Nat) : Int)))) g22) ?_
    refine o_one ?_
    have hf28 := ((((hm0.kp hk7 id).kp hk12 (Ne.symm hn3)).kp hk17 (Ne.symm hn3)).kp hk26 id)
    have hth26 := thereM hp hil hkl (.inl rfl)
    obtain ⟨v26, h26⟩ := hth26
    refine c_e rfl (e_mapEntry kf3 Tryd.underlying85 hf28 rfl rfl (thereG hp hil hkl h.map (.inl rfl)) h26) ?_
    rintro _ w30 ⟨s29, rfl, hs31, hk32⟩
    have ka33 := (Kp.trans ka27 hk32 (fun _ _ e => (fun e => (.inr e)) e))
    have ks34 : Kp (· = g.mb) w24 w30 := (Kp.trans (Kp.refl _ _) hk32 (fun _ _ e => e))
    refine ⟨ks34, ?_⟩
    refine o_y rfl (y_ext rfl (v := (Vi (((s29 : Nat) : Int)))) rfl) ?_
    refine o_one ?_
    refine c_e0 rfl (e_entryStore hs31 rfl rfl (v := ((i : Nat) : Int)) rfl) ?_
    rintro _ w35 ⟨hm36, hk37⟩
    have ka38 := (Kp.trans ka33 hk37 (fun _ _ e => (fun e => (.inr e)) e))
    have ks39 := (Kp.trans ks34 hk37 (fun _ _ e => e))
    refine ⟨ks39, ?_⟩
    refine o_one ?_
    have hth29 := thereM hp hil hkl (.inr rfl)
    obtain ⟨v29, h29⟩ := there_aset hth29 (ix (swpL l i k) i).id (i : Int)
    refine c_e rfl (e_mapEntry kf3 Tryd.underlying85 hm36 rfl rfl (thereG hp hil hkl h.map (.inr rfl)) h29) ?_
    rintro _ w41 ⟨s40, rfl, hs42, hk43⟩
    have ka44 := (Kp.trans ka38 hk43 (fun _ _ e => (fun e => (.inr e)) e))
    have ks45 := (Kp.trans ks39 hk43 (fun _ _ e => e))
    refine ⟨ks45, ?_⟩
    refine o_y rfl (y_ext rfl (v := (Vi (((s40 : Nat) : Int)))) rfl) ?_
    refine o_one ?_
    refine c_e0 rfl (e_entryStore hs42 rfl rfl (v := ((k : Nat) : Int)) rfl) ?_
    rintro _ w46 ⟨hm47, hk48⟩
    have ka49 := (Kp.trans ka44 hk48 (fun _ _ e => (fun e => (.inr e)) e))
    have ks50 := (Kp.trans ks45 hk48 (fun _ _ e => e))
    refine ⟨ks50, ?_⟩
    refine o_done (hend _ _ [] trivial ?_)
    have hb51 := (hk48.get (hk43.get (hk37.get (hk32.get (hk26.get0 (hk17.get (hk12.get (hk7.get0 hb0) hn1) hn1)) hn2) hn2) hn2) hn2)
    have hf52 := (((((hr23.kp hk26 id).kp hk32 hn3).kp hk37 hn3).kp hk43 hn3).kp hk48 hn3)
    exact ⟨rfl, ⟨hb51, hf52, hm47, h.ne, by rw [swpL_len]; exact h.len, h.big⟩, ka49⟩
  · have hf53 := (hr0.kp hk7 id)
    refine c_e rfl (R := fun v_ w_ => v_ = (.agg #[.int .i64 ((ix l i).id), .int .i64 ((ix l i).due)]) ∧ w5 = w_) (Eff.of_yld (y_load (v := (.agg #[.int .i64 ((ix l i).id), .int .i64 ((ix l i).due)])) rfl (rd_el ag164 (EltsOn.now (OwnC.elts hf53)) (some_ix hil) (vs := [(Vi ((ix l i).id)), (Vi ((ix l i).due))]) rfl)) ⟨rfl, rfl⟩) ?_
    rintro _ _ ⟨rfl, rfl⟩
    refine ⟨(Kp.refl _ _), ?_⟩
    refine o_one ?_
    refine c_e rfl (R := fun v_ w_ => v_ = (.agg #[.int .i64 ((ix l k).id), .int .i64 ((ix l k).due)]) ∧ w5 = w_) (Eff.of_yld (y_load (v := (.agg #[.int .i64 ((ix l k).id), .int .i64 ((ix l k).due)])) rfl (rd_el ag164 (EltsOn.now (OwnC.elts hf53)) (some_ix hkl) (vs := [(Vi ((ix l k).id)), (Vi ((ix l k).due))]) rfl)) ⟨rfl, rfl⟩) ?_
    rintro _ _ ⟨rfl, rfl⟩
    refine ⟨(Kp.refl _ _), ?_⟩
    refine o_y rfl (y_idx so151 sz164 rfl (i := i) rfl (by omega)) ?_
    refine o_one ?_
    refine c_e0 rfl (e_storeC (y := (ix l k)) rfl rfl sz164 hf53 (by first | omega | (simp only [List.length_set]; omega)) one_thing) ?_
    rintro _ w54 ⟨hC55, hk56⟩
    have ka57 := (Kp.trans ka8 hk56 (fun _ _ e => (fun e => (.inl e)) e))
    have ks58 : Kp (· = rb) w5 w54 := (Kp.trans (Kp.refl _ _) hk56 (fun _ _ e => e))
    refine ⟨ks58, ?_⟩
    refine o_y rfl (y_idx so151 sz164 rfl (i := k) rfl (by omega)) ?_
    refine o_one ?_
    refine c_e0 rfl (e_storeC (y := (ix l i)) rfl rfl sz164 hC55 (by first | omega | (simp only [List.length_set]; omega)) one_thing) ?_
    rintro _ w59 ⟨hC60, hk61⟩
    have ka62 := (Kp.trans ka57 hk61 (fun _ _ e => (fun e => (.inl e)) e))
    have ks63 := (Kp.trans ks58 hk61 (fun _ _ e => e))
    refine ⟨ks63, ?_⟩
    refine o_done (hK4 _ _ (genC [(0, (Vp g.ob 0)), (1, (Vi (((i : Nat) : Int)))), (2, (Vi (((k : Nat) : Int))))] ⟨g1, g2, g3, trivial⟩ ?_))
    clear hK4; rintro E ⟨g64, g65, g66, -⟩
    have hr67 : OwnC Thing.cs 2 w59 rb 164 cap (swpL l i k) := hC60
    have hli : i < (swpL l i k).length := by rw [swpL_len]; omega
    have hlk : k < (swpL l i k).length := by rw [swpL_len]; omega
    refine regD (· = g.mb) (.take 0 (.take 1 (.take 2 (.take 3 (.take 4 (.take 5 (.take 6 (.take 7 (.take 8 (.take 9 (.take 10 (.take 11 (.take 12 (.take 13 (.take 14 (.take 15 (.take 16 (.take 17 (.take 18 (.take 19 (.take 20 (.take 21 (.take 22 (.take 23 (.take 24 (.take 25 (.one 26 (.take 27 (.one 28 (.one 29 (.take 30 (.one 31 .done)))))))))))))))))))))))))))))))) mixed (by kernel_rfl) fun w68 hh69 hk70 => ?_
    have ka71 := (Kp.then0 ka62 hk70)
    refine o_y rfl (y_move (v := (Vp g.ob 0)) g64) ?_
    refine o_y rfl (y_nil rfl) ?_
    refine o_y rfl (y_fld fo153_1 rfl) ?_
    refine o_y rfl (y_load (v := (.map (some g.mb))) rfl (rd_sc sc85 (On.kp (hk70.get0 (hk61.get (hk56.get (hk7.get0 hb0) hn1) hn1)) hn2) rfl)) ?_
    refine o_y rfl (y_move (v := (Vp g.ob 0)) g64) ?_
    refine o_y rfl (y_nil rfl) ?_
    refine o_y rfl (y_fld fo153_0 rfl) ?_
    refine o_y rfl (y_load (v := (.slice (some ⟨rb, 0, none⟩) n cap)) rfl (rd_sc sc151 (On.kp (hk70.get0 (hk61.get (hk56.get (hk7.get0 hb0) hn1) hn1)) hn2) rfl)) ?_
    refine o_y rfl (y_move (v := (Vi (((i : Nat) : Int)))) g65) ?_
    refine o_y rfl (y_idx so151 sz164 rfl (i := i) rfl (by omega)) ?_
    refine o_y rfl (y_fld fo164_0 rfl) ?_
    refine o_y rfl (y_load (v := (Vi ((ix (swpL l i k) i).id))) rfl (rd_ef sc3 (EltsOn.kp (OwnC.elts (hr67.kp hk70 id)) hn3) (some_ix hli) rfl)) ?_
    refine o_y rfl (y_move (v := (Vp g.ob 0)) g64) ?_
    refine o_y rfl (y_nil rfl) ?_
    refine o_y rfl (y_fld fo153_1 rfl) ?_
    refine o_y rfl (y_load (v := (.map (some g.mb))) rfl (rd_sc sc85 (On.kp (hk70.get0 (hk61.get (hk56.get (hk7.get0 hb0) hn1) hn1)) hn2) rfl)) ?_
    refine o_y rfl (y_move (v := (Vp g.ob 0)) g64) ?_
    refine o_y rfl (y_nil rfl) ?_
    refine o_y rfl (y_fld fo153_0 rfl) ?_
    refine o_y rfl (y_load (v := (.slice (some ⟨rb, 0, none⟩) n cap)) rfl (rd_sc sc151 (On.kp (hk70.get0 (hk61.get (hk56.get (hk7.get0 hb0) hn1) hn1)) hn2) rfl)) ?_
    refine o_y rfl (y_move (v := (Vi (((k : Nat) : Int)))) g66) ?_
    refine o_y rfl (y_idx so151 sz164 rfl (i := k) rfl (by omega)) ?_
    refine o_y rfl (y_fld fo164_0 rfl) ?_
    refine o_y rfl (y_load (v := (Vi ((ix (swpL l i k) k).id))) rfl (rd_ef sc3 (EltsOn.kp (OwnC.elts (hr67.kp hk70 id)) hn3) (some_ix hlk) rfl)) ?_
    refine o_y rfl (y_move (v := (Vi (((i : Nat) : Int)))) g65) ?_
    refine o_y rfl (y_move (v := (Vi (((k : Nat) : Int)))) g66) ?_
    refine o_one ?_
    have hf72 := ((((hm0.kp hk7 id).kp hk56 (Ne.symm hn3)).kp hk61 (Ne.symm hn3)).kp hk70 id)
    have hth26 := thereM hp hil hkl (.inl rfl)
    obtain ⟨v26, h26⟩ := hth26
    refine c_e rfl (e_mapEntry kf3 Tryd.underlying85 hf72 rfl rfl (thereG hp hil hkl h.map (.inl rfl)) h26) ?_
    rintro _ w74 ⟨s73, rfl, hs75, hk76⟩
    have ka77 := (Kp.trans ka71 hk76 (fun _ _ e => (fun e => (.inr e)) e))
    have ks78 : Kp (· = g.mb) w68 w74 := (Kp.trans (Kp.refl _ _) hk76 (fun _ _ e => e))
    refine ⟨ks78, ?_⟩
    refine o_y rfl (y_ext rfl (v := (Vi (((s73 : Nat) : Int)))) rfl) ?_
    refine o_one ?_
    refine c_e0 rfl (e_entryStore hs75 rfl rfl (v := ((i : Nat) : Int)) rfl) ?_
    rintro _ w79 ⟨hm80, hk81⟩
    have ka82 := (Kp.trans ka77 hk81 (fun _ _ e => (fun e => (.inr e)) e))
    have ks83 := (Kp.trans ks78 hk81 (fun _ _ e => e))
    refine ⟨ks83, ?_⟩
    refine o_one ?_
    have hth29 := thereM hp hil hkl (.inr rfl)
    obtain ⟨v29, h29⟩ := there_aset hth29 (ix (swpL l i k) i).id (i : Int)
    refine c_e rfl (e_mapEntry kf3 Tryd.underlying85 hm80 rfl rfl (thereG hp hil hkl h.map (.inr rfl)) h29) ?_
    rintro _ w85 ⟨s84, rfl, hs86, hk87⟩
    have ka88 := (Kp.trans ka82 hk87 (fun _ _ e => (fun e => (.inr e)) e))
    have ks89 := (Kp.trans ks83 hk87 (fun _ _ e => e))
    refine ⟨ks89, ?_⟩
    refine o_y rfl (y_ext rfl (v := (Vi (((s84 : Nat) : Int)))) rfl) ?_
    refine o_one ?_
    refine c_e0 rfl (e_entryStore hs86 rfl rfl (v := ((k : Nat) : Int)) rfl) ?_
    rintro _ w90 ⟨hm91, hk92⟩
    have ka93 := (Kp.trans ka88 hk92 (fun _ _ e => (fun e => (.inr e)) e))
    have ks94 := (Kp.trans ks89 hk92 (fun _ _ e => e))
    refine ⟨ks94, ?_⟩
    refine o_done (hend _ _ [] trivial ?_)
    have hb95 := (hk92.get (hk87.get (hk81.get (hk76.get (hk70.get0 (hk61.get (hk56.get (hk7.get0 hb0) hn1) hn1)) hn2) hn2) hn2) hn2)
    have hf96 := (((((hr67.kp hk70 id).kp hk76 hn3).kp hk81 hn3).kp hk87 hn3).kp hk92 hn3)
    exact ⟨rfl, ⟨hb95, hf96, hm91, h.ne, by rw [swpL_len]; exact h.len, h.big⟩, ka93⟩

end Go.Proofs.YtdcnblafepgheaaDoor
