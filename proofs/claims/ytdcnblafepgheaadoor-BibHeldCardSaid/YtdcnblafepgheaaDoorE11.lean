/-
  Written by a program (wip/walks).
-/
import Derived.Test.YtdcnblafepgheaaDoorE10
namespace Go.Proofs.YtdcnblafepgheaaDoor
open Go Go.V
set_option maxRecDepth 100000
theorem inM_add {l : List (Binding × Nat)} {q : Binding × Nat} (h : inM l (k6 q.1.proto q.1.inn) = none) : inM (l ++ [q]) = fun k => if k = k6 q.1.proto q.1.inn then some q.1.id else inM l k := by
  funext k
  unfold inM at *
  rw [List.find?_append, Option.map_or]
  by_cases e : k = k6 q.1.proto q.1.inn
  · subst e; rw [h]; simp
  · have : (List.find? (fun q => decide (k6 q.1.proto q.1.inn = k)) [q]) = none := by simp [Ne.symm e]
    rw [this]; simp [e]
theorem outM_add {l : List (Binding × Nat)} {q : Binding × Nat} (h : outM l (k4 q.1.proto q.1.out) = none) : outM (l ++ [q]) = fun k => if k = k4 q.1.proto q.1.out then some q.1.id else outM l k := by
  funext k
  unfold outM at *
  rw [List.find?_append, Option.map_or]
  by_cases e : k = k4 q.1.proto q.1.out
  · subst e; rw [h]; simp
  · have : (List.find? (fun q => decide (k4 q.1.proto q.1.out = k)) [q]) = none := by simp [Ne.symm e]
    rw [this]; simp [e]
abbrev F6 (g : BibG) : Nat → Prop := fun k => k = g.tb ∨ k = g.mb ∨ k = g.i1.ib ∨ k = g.i1.sb ∨ k = g.i2.ib ∨ k = g.i2.sb
theorem F6_blocks {g : BibG} {k : Nat} (h : F6 g k) : k ∈ g.blocks := by
  simp only [BibG.blocks, List.mem_cons]
  rcases h with h | h | h | h | h | h <;> simp [h]
theorem F6_pool {g : BibG} {st : BibS} (h : (bfp g st).Nodup) {i b : Nat} (hi : 6 ≤ i) (hb : g.blocks[i]? = some b) : ¬ F6 g b := by
  rintro (e | e | e | e | e | e)
  · exact blocks_ne h (i := i) (j := 0) (by omega) hb rfl e
  · exact blocks_ne h (i := i) (j := 1) (by omega) hb rfl e
  · exact blocks_ne h (i := i) (j := 2) (by omega) hb rfl e
  · exact blocks_ne h (i := i) (j := 3) (by omega) hb rfl e
  · exact blocks_ne h (i := i) (j := 4) (by omega) hb rfl e
  · exact blocks_ne h (i := i) (j := 5) (by omega) hb rfl e
theorem BibIs.pools {g : BibG} {st : BibS} {w w' : World} (h : BibIs g st w) (kp : Kp (F6 g) w w') : ∀ k, k < 3 → PoolIs (g.p k) (st.h k) w' := by
  intro j hj
  match j, hj with
  | 0, hj => exact (h.pool 0 hj).kp kp (F6_pool h.nd (i := 6) (by omega) rfl) (F6_pool h.nd (i := 7) (by omega) rfl) (F6_pool h.nd (i := 8) (by omega) rfl)
  | 1, hj => exact (h.pool 1 hj).kp kp (F6_pool h.nd (i := 9) (by omega) rfl) (F6_pool h.nd (i := 10) (by omega) rfl) (F6_pool h.nd (i := 11) (by omega) rfl)
  | 2, hj => exact (h.pool 2 hj).kp kp (F6_pool h.nd (i := 12) (by omega) rfl) (F6_pool h.nd (i := 13) (by omega) rfl) (F6_pool h.nd (i := 14) (by omega) rfl)
theorem BibIs.boxes {g : BibG} {st : BibS} {w w' : World} (h : BibIs g st w) (kp : Kp (F6 g) w w') : ∀ q ∈ st.l, Blk w' q.2 q.1.cs.toArray 36 := fun q hq => kp.get (h.box q hq) fun e =>
  (List.nodup_append.1 h.nd).2.2 _ (F6_blocks e) q.2 (List.mem_map.2 ⟨q, hq, rfl⟩) rfl
theorem BibIs.tbF {g : BibG} {st : BibS} {w w' : World} (h : BibIs g st w) (kp : Kp (F6 g) w w') : Tb w' := h.tb.kp kp fun e => h.tbn (mem_blocks (F6_blocks e))
theorem BibIs.add {g : BibG} {st : BibS} {w w' : World} (h : BibIs g st w) (kp : Kp (F6 g) w w') (b : Binding) (x : Nat) (hx : w.heap.size ≤ x)
    (blk : Blk w' g.tb #[.int .i64 g.max, .int .i64 b.id, u8 g.first.a, u8 g.first.b, u8 g.first.c, u8 g.first.d, .map (some g.mb), .pointer (some ⟨g.i1.ib, 0, none⟩), .pointer (some ⟨g.i2.ib, 0, none⟩), .pointer (some ⟨(g.p 0).pb, 0, none⟩), .pointer (some ⟨(g.p 1).pb, 0, none⟩), .pointer (some ⟨(g.p 2).pb, 0, none⟩)] 95)
    (map : MapAt (fun n : Int => .int .i64 n) (fun p : Nat => Value.pointer (some ⟨p, 0, none⟩)) inI w' g.mb (idl st.l ++ [(b.id, x)])) (box : Blk w' x b.cs.toArray 36)
    (hi : inM st.l (k6 b.proto b.inn) = none) (ho : outM st.l (k4 b.proto b.out) = none)
    (i1 : IxIs g.i1 (fun k => if k = k6 b.proto b.inn then some b.id else inM st.l k) (st.l.length + 1) w') (i2 : IxIs g.i2 (fun k => if k = k4 b.proto b.out then some b.id else outM st.l k) (st.l.length + 1) w') : BibIs g ⟨b.id, st.l ++ [(b, x)], st.h⟩ w' := by
  have hnx : x ∉ bfp g st := fun hm => by have := h.lt _ hm; omega
  refine ⟨blk, by simpa [idl] using map, fun q hq => ?_, ?_, ?_, h.pools kp, h.tbF kp, ?_, ?_⟩
  · rcases List.mem_append.1 hq with hq | hq
    · exact h.boxes kp q hq
    · simp at hq; subst hq; exact box
  · rw [inM_add (q := (b, x)) hi, List.length_append]; exact i1
  · rw [outM_add (q := (b, x)) ho, List.length_append]; exact i2
  · have e : bfp g ⟨b.id, st.l ++ [(b, x)], st.h⟩ = bfp g st ++ [x] := by simp [bfp]
    rw [e, List.nodup_append]
    refine ⟨h.nd, by simp, fun a ha b hb => ?_⟩
    simp at hb; subst hb
    intro e; subst e; exact hnx ha
  · have e : bfp g ⟨b.id, st.l ++ [(b, x)], st.h⟩ = bfp g st ++ [x] := by simp [bfp]
    rw [e, List.mem_append]
    rintro (hm | hm)
    · exact h.tbn hm
    · simp at hm; have := h.tb.lt; omega
theorem look_none_in {l : List (Binding × Nat)} {p : Int} {t : T6} (h : lookIn l p t = none) : inM l (k6 p t) = none := by rw [inM_look, h]; rfl
theorem look_none_out {l : List (Binding × Nat)} {p : Int} {t : T4} (h : lookOut l p t = none) : outM l (k4 p t) = none := by rw [outM_look, h]; rfl
theorem putb_spec {g : BibG} {st : BibS} {w : World} (ok : BibOk g) (h : BibIs g st w) (b : Binding) (hp : -9223372036854775808 ≤ b.proto ∧ b.proto ≤ 9223372036854775807) (ht : -9223372036854775808 ≤ b.inn.port ∧ b.inn.port ≤ 9223372036854775807) (hu : -9223372036854775808 ≤ b.out.port ∧ b.out.port ≤ 9223372036854775807) (hle : ∀ q ∈ st.l, q.1.id ≤ st.last) (hla : 0 ≤ st.last ∧ st.last ≤ 4611686018427387904) (hlen : (st.l.length : Int) < g.max) (hli : lookIn st.l b.proto b.inn = none) (hlo : lookOut st.l b.proto b.out = none) : Rets Tryd.prog 48 #[(.pointer (some ⟨g.tb, 0, none⟩)), (bv b)] w fun v w' => (∃ x, v = bv ⟨st.last + 1, b.proto, b.inn, b.out, b.static, b.sessions⟩ ∧ w.heap.size ≤ x ∧ BibIs g ⟨st.last + 1, st.l ++ [(⟨st.last + 1, b.proto, b.inn, b.out, b.static, b.sessions⟩, x)], st.h⟩ w') ∧ Kp (F6 g) w w' := by
  refine enter Tryd.func48 rfl Tryd.ntmps48 rfl fun Q hret hend E hE => ?_
  have g1 : E 0 = (Vp g.tb 0) := hE 0
  have g2 : E 1 = (bv b) := hE 1
  clear hE
  have hb0 := h.blk; have hm0 := h.map; have hT0 := h.tb; have hn1 : g.tb ≠ g.mb := blk_ne_map h.blk h.map
  have hag : aget (idl st.l) (st.last + 1) = none := aget_none.2 fun e he e2 => by
      obtain ⟨q, hq, rfl⟩ := idl_inv he
      have := hle q hq; simp only at e2; omega
  have hxi := h.ixin; have hxo := h.ixout; have hki := look_none_in hli; have hko := look_none_out hlo; have hok1 := ok.n1; have hok2 := ok.n2
  refine seq fun K3 hK3 => ?_
  refine reg ?_
  refine s_e (e_box (v := (bv b)) g2) rfl ?_
  rintro _ w4 ⟨rfl, hb5, hk6⟩
  have ka7 : Kp (fun k => k = g.tb ∨ k = g.mb ∨ k = g.i1.ib ∨ k = g.i1.sb ∨ k = g.i2.ib ∨ k = g.i2.sb) w w4 := (Kp.then0 (Kp.refl _ _) hk6)
  refine s_e (e_alloc ze36) rfl ?_
  rintro _ w8 ⟨rfl, hb9, hk10⟩
  have ka11 := (Kp.then0 ka7 hk10)
  refine s_nil (hK3 _ _ (genC [(0, (Vp g.tb 0)), (3, (Vp w.heap.size 0)), (4, (Vp w4.heap.size 0))] ⟨g1, rfl, rfl, trivial⟩ ?_))
  clear hK3; rintro E ⟨g12, g13, g14, -⟩
  refine seq fun K15 hK15 => ?_
  refine reg ?_
  refine s_y (y_move (v := (Vp g.tb 0)) g12) rfl ?_
  refine s_y (y_nil rfl) rfl ?_
  refine s_y (y_fld fo95_1 rfl) rfl ?_
  have hb16 := (hk10.get0 (hk6.get0 hb0))
  refine s_y (y_load (v := (Vi (st.last))) rfl (rd_sc sc3 (On.now hb16) rfl)) rfl ?_
  refine s_y (y_add rfl rfl (c := st.last + 1) (by omega) rfl) rfl ?_
  refine s_y (y_nil rfl) rfl ?_
  refine s_y (y_fld fo95_1 rfl) rfl ?_
  refine s_e0 (e_storeV (cs' := #[(Vi (g.max)), (Vi (st.last + 1)), (u8 g.first.a), (u8 g.first.b), (u8 g.first.c), (u8 g.first.d), (.map (some g.mb)), (Vp g.i1.ib 0), (Vp g.i2.ib 0), (Vp ((g.p 0).pb) 0), (Vp ((g.p 1).pb) 0), (Vp ((g.p 2).pb) 0)]) [(Vi (st.last + 1))] rfl (v := (Vi (st.last + 1))) rfl rfl sz3 hb16 rfl rfl rfl) ?_
  rintro _ w17 ⟨hb18, hk19⟩
  have ka20 := (Kp.trans ka11 hk19 (fun _ _ e => (fun e => (.inl e)) e))
  refine s_nil (hK15 _ _ (genC [(0, (Vp g.tb 0)), (3, (Vp w.heap.size 0)), (4, (Vp w4.heap.size 0))] ⟨g12, g13, g14, trivial⟩ ?_))
  clear hK15; rintro E ⟨g21, g22, g23, -⟩
  refine seq fun K24 hK24 => ?_
  refine reg ?_
  refine s_y (y_move (v := (Vp g.tb 0)) g21) rfl ?_
  refine s_y (y_nil rfl) rfl ?_
  refine s_y (y_fld fo95_1 rfl) rfl ?_
  refine s_y (y_load (v := (Vi (st.last + 1))) rfl (rd_sc sc3 (On.now hb18) rfl)) rfl ?_
  refine s_y (y_fld fo36_0 g22) rfl ?_
  have hb25 := (hk19.get (hk10.get0 hb5) (Nat.ne_of_gt (nt (lt_of_get hb0) (Nat.le_refl _))))
  refine s_e0 (e_storeV (cs' := #[(Vi (st.last + 1)), (Vi (b.proto)), (u8 b.inn.addr.b0), (u8 b.inn.addr.b1), (u8 b.inn.addr.b2), (u8 b.inn.addr.b3), (u8 b.inn.addr.b4), (u8 b.inn.addr.b5), (u8 b.inn.addr.b6), (u8 b.inn.addr.b7), (u8 b.inn.addr.b8), (u8 b.inn.addr.b9), (u8 b.inn.addr.b10), (u8 b.inn.addr.b11), (u8 b.inn.addr.b12), (u8 b.inn.addr.b13), (u8 b.inn.addr.b14), (u8 b.inn.addr.b15), (Vi (b.inn.port)), (u8 b.out.addr.a), (u8 b.out.addr.b), (u8 b.out.addr.c), (u8 b.out.addr.d), (Vi (b.out.port)), (.bool (b.static)), (Vi (b.sessions))]) [(Vi (st.last + 1))] rfl (v := (Vi (st.last + 1))) rfl rfl sz3 hb25 rfl rfl rfl) ?_
  rintro _ w26 ⟨hb27, hk28⟩
  have ka29 := (Kp.fresh ka20 hk28 fun _ e => nl (nl (Nat.le_refl _) (Nat.le_refl _)) (Nat.le_of_eq e.symm))
  refine s_nil (hK24 _ _ (genC [(0, (Vp g.tb 0)), (3, (Vp w.heap.size 0)), (4, (Vp w4.heap.size 0))] ⟨g21, g22, g23, trivial⟩ ?_))
  clear hK24; rintro E ⟨g30, g31, g32, -⟩
  refine seq fun K33 hK33 => ?_
  refine regD (· = g.mb) (.take 0 (.take 1 (.take 2 (.take 3 (.take 4 (.take 5 (.one 6 .done))))))) mixed (by kernel_rfl) fun w34 hh35 hk36 => ?_
  have ka37 := (Kp.then0 ka29 hk36)
  refine o_y rfl (y_move (v := (Vp g.tb 0)) g30) ?_
  refine o_y rfl (y_nil rfl) ?_
  refine o_y rfl (y_fld fo95_3 rfl) ?_
  refine o_y rfl (y_load (v := (.map (some g.mb))) rfl (rd_sc sc91 (On.kp (hk36.get0 (hk28.get hb18 (Nat.ne_of_lt (nt (lt_of_get hb0) (Nat.le_refl _))))) hn1) rfl)) ?_
  refine o_y rfl (y_fld fo36_0 g31) ?_
  refine o_y rfl (y_load (v := (Vi (st.last + 1))) rfl (rd_sc sc3 (On.kp (hk36.get0 hb27) (Nat.ne_of_gt (nt (hm0.lt) (Nat.le_refl _)))) rfl)) ?_
  refine o_one ?_
  have hf38 := (((((hm0.kp hk6 id).kp hk10 id).kp hk19 (Ne.symm hn1)).kp hk28 (Nat.ne_of_lt (nt (hm0.lt) (Nat.le_refl _)))).kp hk36 id)
  refine c_e0 rfl (e_mapPut kf3 Tryd.underlying91 hf38 rfl rfl (v := w.heap.size) g31 (show inI (st.last + 1) from inI_of (by omega) (by omega)) hag) ?_
  rintro _ w39 ⟨hm40, hk41⟩
  have ka42 := (Kp.trans ka37 hk41 (fun _ _ e => (fun e => (.inr (.inl e))) e))
  have ks43 : Kp (· = g.mb) w34 w39 := (Kp.trans (Kp.refl _ _) hk41 (fun _ _ e => e))
  refine ⟨ks43, ?_⟩
  refine o_done (hK33 _ _ (genC [(0, (Vp g.tb 0)), (3, (Vp w.heap.size 0)), (4, (Vp w4.heap.size 0))] ⟨g30, g31, g32, trivial⟩ ?_))
  clear hK33; rintro E ⟨g44, g45, g46, -⟩
  refine seq fun K47 hK47 => ?_
  refine regD (fun k => k = g.i1.ib ∨ k = g.i1.sb) (.take 0 (.take 1 (.take 2 (.take 3 (.take 4 (.take 5 (.take 6 (.take 7 (.take 9 (.take 10 (.one 8 (.one 11 .done)))))))))))) mixed (by kernel_rfl) fun w48 hh49 hk50 => ?_
  have ka51 := (Kp.then0 ka42 hk50)
  refine o_y rfl (y_move (v := (Vp g.tb 0)) g44) ?_
  refine o_y rfl (y_nil rfl) ?_
  refine o_y rfl (y_fld fo95_4 rfl) ?_
  refine o_y rfl (y_load (v := (Vp g.i1.ib 0)) rfl (rd_sc sc88 (On.kp (hk50.get0 (hk41.get (hk36.get0 (hk28.get hb18 (Nat.ne_of_lt (nt (lt_of_get hb0) (Nat.le_refl _))))) hn1)) (not_or.2 ⟨(blocks_ne h.nd (i := 0) (j := 2) (by decide) rfl rfl), (blocks_ne h.nd (i := 0) (j := 3) (by decide) rfl rfl)⟩)) rfl)) ?_
  refine o_y rfl (y_fld fo36_1 g45) ?_
  refine o_y rfl (y_load (v := (Vi (b.proto))) rfl (rd_sc sc3 (On.kp (hk50.get0 (hk41.get (hk36.get0 hb27) (Nat.ne_of_gt (nt (hm0.lt) (Nat.le_refl _))))) (not_or.2 ⟨(Nat.ne_of_gt (nt ((IxIs.lt hxi).1) (Nat.le_refl _))), (Nat.ne_of_gt (nt ((IxIs.lt hxi).2) (Nat.le_refl _)))⟩)) rfl)) ?_
  refine o_y rfl (y_fld fo36_2 g45) ?_
  refine o_y rfl (y_load (v := (t6 b.inn)) rfl (rd_agg (vs := b.inn.cs) ag32 (On.kp (hk50.get0 (hk41.get (hk36.get0 hb27) (Nat.ne_of_gt (nt (hm0.lt) (Nat.le_refl _))))) (not_or.2 ⟨(Nat.ne_of_gt (nt ((IxIs.lt hxi).1) (Nat.le_refl _))), (Nat.ne_of_gt (nt ((IxIs.lt hxi).2) (Nat.le_refl _)))⟩)) (by kernel_rfl) rfl)) ?_
  refine o_y rfl (y_fld fo36_0 g45) ?_
  refine o_y rfl (y_load (v := (Vi (st.last + 1))) rfl (rd_sc sc3 (On.kp (hk50.get0 (hk41.get (hk36.get0 hb27) (Nat.ne_of_gt (nt (hm0.lt) (Nat.le_refl _))))) (not_or.2 ⟨(Nat.ne_of_gt (nt ((IxIs.lt hxi).1) (Nat.le_refl _))), (Nat.ne_of_gt (nt ((IxIs.lt hxi).2) (Nat.le_refl _)))⟩)) rfl)) ?_
  refine o_one ?_
  have hf52 := (((((((hT0.kp hk6 id).kp hk10 id).kp hk19 (Ne.symm (bib_tb_ne h (i := 0) rfl))).kp hk28 (Nat.ne_of_lt (nt (hT0.lt) (Nat.le_refl _)))).kp hk36 id).kp hk41 (Ne.symm (bib_tb_ne h (i := 1) rfl))).kp hk50 id)
  refine c_e rfl (e_call ca80 (args := [(Vi (b.proto)), (t6 b.inn)]) rfl (key6_spec b.proto b.inn _ (by omega) (by omega) hf52)) ?_
  rintro _ w53 ⟨rfl, hk54⟩
  have ka55 := (Kp.then0 ka51 hk54)
  have ks56 : Kp (fun k => k = g.i1.ib ∨ k = g.i1.sb) w48 w53 := (Kp.then0 (Kp.refl _ _) hk54)
  refine ⟨ks56, ?_⟩
  refine o_one ?_
  have hf57 := (IxIs.kp (IxIs.kp (IxIs.kp (IxIs.kp (IxIs.kp (IxIs.kp (IxIs.kp (IxIs.kp hxi hk6 id id) hk10 id id) hk19 (blocks_ne h.nd (i := 2) (j := 0) (by decide) rfl rfl) (blocks_ne h.nd (i := 3) (j := 0) (by decide) rfl rfl)) hk28 (Nat.ne_of_lt (nt ((IxIs.lt hxi).1) (Nat.le_refl _))) (Nat.ne_of_lt (nt ((IxIs.lt hxi).2) (Nat.le_refl _)))) hk36 id id) hk41 (blocks_ne h.nd (i := 2) (j := 1) (by decide) rfl rfl) (blocks_ne h.nd (i := 3) (j := 1) (by decide) rfl rfl)) hk50 id id) hk54 id id)
  refine c_e rfl (e_call ca62 (args := [(Vp g.i1.ib 0), (.string (k6 b.proto b.inn)), (Vi (st.last + 1))]) rfl (put_spec ok.i1 hf57 _ (st.last + 1) hki (by omega))) ?_
  rintro _ w58 ⟨rfl, hX1, hk59⟩
  have ka60 := (Kp.trans ka55 hk59 (fun _ _ e => (fun e => e.elim (fun e => (.inr (.inr (.inl e)))) (fun e => (.inr (.inr (.inr (.inl e)))))) e))
  have ks61 := (Kp.trans ks56 hk59 (fun _ _ e => e))
  refine ⟨ks61, ?_⟩
  refine o_done (hK47 _ _ (genC [(0, (Vp g.tb 0)), (3, (Vp w.heap.size 0)), (4, (Vp w4.heap.size 0))] ⟨g44, g45, g46, trivial⟩ ?_))
  clear hK47; rintro E ⟨g62, g63, g64, -⟩
  refine seq fun K65 hK65 => ?_
  refine regD (fun k => k = g.i2.ib ∨ k = g.i2.sb) (.take 0 (.take 1 (.take 2 (.take 3 (.take 4 (.take 5 (.take 6 (.take 7 (.take 9 (.take 10 (.one 8 (.one 11 .done)))))))))))) mixed (by kernel_rfl) fun w66 hh67 hk68 => ?_
  have ka69 := (Kp.then0 ka60 hk68)
  refine o_y rfl (y_move (v := (Vp g.tb 0)) g62) ?_
  refine o_y rfl (y_nil rfl) ?_
  refine o_y rfl (y_fld fo95_5 rfl) ?_
  refine o_y rfl (y_load (v := (Vp g.i2.ib 0)) rfl (rd_sc sc88 (On.kp (hk68.get0 (hk59.get (hk54.get0 (hk50.get0 (hk41.get (hk36.get0 (hk28.get hb18 (Nat.ne_of_lt (nt (lt_of_get hb0) (Nat.le_refl _))))) hn1))) (not_or.2 ⟨(blocks_ne h.nd (i := 0) (j := 2) (by decide) rfl rfl), (blocks_ne h.nd (i := 0) (j := 3) (by decide) rfl rfl)⟩))) (not_or.2 ⟨(blocks_ne h.nd (i := 0) (j := 4) (by decide) rfl rfl), (blocks_ne h.nd (i := 0) (j := 5) (by decide) rfl rfl)⟩)) rfl)) ?_
  refine o_y rfl (y_fld fo36_1 g63) ?_
  refine o_y rfl (y_load (v := (Vi (b.proto))) rfl (rd_sc sc3 (On.kp (hk68.get0 (hk59.get (hk54.get0 (hk50.get0 (hk41.get (hk36.get0 hb27) (Nat.ne_of_gt (nt (hm0.lt) (Nat.le_refl _)))))) (not_or.2 ⟨(Nat.ne_of_gt (nt ((IxIs.lt hxi).1) (Nat.le_refl _))), (Nat.ne_of_gt (nt ((IxIs.lt hxi).2) (Nat.le_refl _)))⟩))) (not_or.2 ⟨(Nat.ne_of_gt (nt ((IxIs.lt hxo).1) (Nat.le_refl _))), (Nat.ne_of_gt (nt ((IxIs.lt hxo).2) (Nat.le_refl _)))⟩)) rfl)) ?_
  refine o_y rfl (y_fld fo36_3 g63) ?_
  refine o_y rfl (y_load (v := (t4 b.out)) rfl (rd_agg (vs := b.out.cs) ag34 (On.kp (hk68.get0 (hk59.get (hk54.get0 (hk50.get0 (hk41.get (hk36.get0 hb27) (Nat.ne_of_gt (nt (hm0.lt) (Nat.le_refl _)))))) (not_or.2 ⟨(Nat.ne_of_gt (nt ((IxIs.lt hxi).1) (Nat.le_refl _))), (Nat.ne_of_gt (nt ((IxIs.lt hxi).2) (Nat.le_refl _)))⟩))) (not_or.2 ⟨(Nat.ne_of_gt (nt ((IxIs.lt hxo).1) (Nat.le_refl _))), (Nat.ne_of_gt (nt ((IxIs.lt hxo).2) (Nat.le_refl _)))⟩)) (by kernel_rfl) rfl)) ?_
  refine o_y rfl (y_fld fo36_0 g63) ?_
  refine o_y rfl (y_load (v := (Vi (st.last + 1))) rfl (rd_sc sc3 (On.kp (hk68.get0 (hk59.get (hk54.get0 (hk50.get0 (hk41.get (hk36.get0 hb27) (Nat.ne_of_gt (nt (hm0.lt) (Nat.le_refl _)))))) (not_or.2 ⟨(Nat.ne_of_gt (nt ((IxIs.lt hxi).1) (Nat.le_refl _))), (Nat.ne_of_gt (nt ((IxIs.lt hxi).2) (Nat.le_refl _)))⟩))) (not_or.2 ⟨(Nat.ne_of_gt (nt ((IxIs.lt hxo).1) (Nat.le_refl _))), (Nat.ne_of_gt (nt ((IxIs.lt hxo).2) (Nat.le_refl _)))⟩)) rfl)) ?_
  refine o_one ?_
  have hf70 := (((hf52.kp hk54 id).kp hk59 (not_or.2 ⟨(Ne.symm (bib_tb_ne h (i := 2) rfl)), (Ne.symm (bib_tb_ne h (i := 3) rfl))⟩)).kp hk68 id)
  refine c_e rfl (e_call ca78 (args := [(Vi (b.proto)), (t4 b.out)]) rfl (key4_spec b.proto b.out _ (by omega) (by omega) hf70)) ?_
  rintro _ w71 ⟨rfl, hk72⟩
  have ka73 := (Kp.then0 ka69 hk72)
  have ks74 : Kp (fun k => k = g.i2.ib ∨ k = g.i2.sb) w66 w71 := (Kp.then0 (Kp.refl _ _) hk72)
  refine ⟨ks74, ?_⟩
  refine o_one ?_
  have hf75 := (IxIs.kp (IxIs.kp (IxIs.kp (IxIs.kp (IxIs.kp (IxIs.kp (IxIs.kp (IxIs.kp (IxIs.kp (IxIs.kp (IxIs.kp hxo hk6 id id) hk10 id id) hk19 (blocks_ne h.nd (i := 4) (j := 0) (by decide) rfl rfl) (blocks_ne h.nd (i := 5) (j := 0) (by decide) rfl rfl)) hk28 (Nat.ne_of_lt (nt ((IxIs.lt hxo).1) (Nat.le_refl _))) (Nat.ne_of_lt (nt ((IxIs.lt hxo).2) (Nat.le_refl _)))) hk36 id id) hk41 (blocks_ne h.nd (i := 4) (j := 1) (by decide) rfl rfl) (blocks_ne h.nd (i := 5) (j := 1) (by decide) rfl rfl)) hk50 id id) hk54 id id) hk59 (not_or.2 ⟨(blocks_ne h.nd (i := 4) (j := 2) (by decide) rfl rfl), (blocks_ne h.nd (i := 4) (j := 3) (by decide) rfl rfl)⟩) (not_or.2 ⟨(blocks_ne h.nd (i := 5) (j := 2) (by decide) rfl rfl), (blocks_ne h.nd (i := 5) (j := 3) (by decide) rfl rfl)⟩)) hk68 id id) hk72 id id)
  refine c_e rfl (e_call ca62 (args := [(Vp g.i2.ib 0), (.string (k4 b.proto b.out)), (Vi (st.last + 1))]) rfl (put_spec ok.i2 hf75 _ (st.last + 1) hko (by omega))) ?_
  rintro _ w76 ⟨rfl, hX2, hk77⟩
  have ka78 := (Kp.trans ka73 hk77 (fun _ _ e => (fun e => e.elim (fun e => (.inr (.inr (.inr (.inr (.inl e)))))) (fun e => (.inr (.inr (.inr (.inr (.inr e))))))) e))
  have ks79 := (Kp.trans ks74 hk77 (fun _ _ e => e))
  refine ⟨ks79, ?_⟩
  refine o_done (hK65 _ _ (genC [(3, (Vp w.heap.size 0)), (4, (Vp w4.heap.size 0))] ⟨g63, g64, trivial⟩ ?_))
  clear hK65; rintro E ⟨g80, g81, -⟩
  refine seq fun K82 hK82 => ?_
  refine reg ?_
  have hb83 := (hk77.get (hk72.get0 (hk68.get0 (hk59.get (hk54.get0 (hk50.get0 (hk41.get (hk36.get0 hb27) (Nat.ne_of_gt (nt (hm0.lt) (Nat.le_refl _)))))) (not_or.2 ⟨(Nat.ne_of_gt (nt ((IxIs.lt hxi).1) (Nat.le_refl _))), (Nat.ne_of_gt (nt ((IxIs.lt hxi).2) (Nat.le_refl _)))⟩)))) (not_or.2 ⟨(Nat.ne_of_gt (nt ((IxIs.lt hxo).1) (Nat.le_refl _))), (Nat.ne_of_gt (nt ((IxIs.lt hxo).2) (Nat.le_refl _)))⟩))
  refine s_y (y_load (v := (bv (⟨st.last + 1, b.proto, b.inn, b.out, b.static, b.sessions⟩ : Binding))) g80 (rd_agg (vs := [(Vi (st.last + 1)), (Vi (b.proto)), (u8 b.inn.addr.b0), (u8 b.inn.addr.b1), (u8 b.inn.addr.b2), (u8 b.inn.addr.b3), (u8 b.inn.addr.b4), (u8 b.inn.addr.b5), (u8 b.inn.addr.b6), (u8 b.inn.addr.b7), (u8 b.inn.addr.b8), (u8 b.inn.addr.b9), (u8 b.inn.addr.b10), (u8 b.inn.addr.b11), (u8 b.inn.addr.b12), (u8 b.inn.addr.b13), (u8 b.inn.addr.b14), (u8 b.inn.addr.b15), (Vi (b.inn.port)), (u8 b.out.addr.a), (u8 b.out.addr.b), (u8 b.out.addr.c), (u8 b.out.addr.d), (Vi (b.out.port)), (.bool (b.static)), (Vi (b.sessions))]) ag36 (On.now hb83) (by kernel_rfl) rfl)) rfl ?_
  have hb84 := (hk77.get (hk72.get0 (hk68.get0 (hk59.get (hk54.get0 (hk50.get0 (hk41.get (hk36.get0 (hk28.get (hk19.get hb9 (Nat.ne_of_gt (nt (nt (lt_of_get hb0) hk6.size) (Nat.le_refl _)))) (Nat.ne_of_gt (nt (lt_of_get hb5) (Nat.le_refl _))))) (Nat.ne_of_gt (nt (nt (hm0.lt) hk6.size) (Nat.le_refl _)))))) (not_or.2 ⟨(Nat.ne_of_gt (nt (nt ((IxIs.lt hxi).1) hk6.size) (Nat.le_refl _))), (Nat.ne_of_gt (nt (nt ((IxIs.lt hxi).2) hk6.size) (Nat.le_refl _)))⟩)))) (not_or.2 ⟨(Nat.ne_of_gt (nt (nt ((IxIs.lt hxo).1) hk6.size) (Nat.le_refl _))), (Nat.ne_of_gt (nt (nt ((IxIs.lt hxo).2) hk6.size) (Nat.le_refl _)))⟩))
  refine s_e0 (e_storeV (cs' := #[(Vi (st.last + 1)), (Vi (b.proto)), (u8 b.inn.addr.b0), (u8 b.inn.addr.b1), (u8 b.inn.addr.b2), (u8 b.inn.addr.b3), (u8 b.inn.addr.b4), (u8 b.inn.addr.b5), (u8 b.inn.addr.b6), (u8 b.inn.addr.b7), (u8 b.inn.addr.b8), (u8 b.inn.addr.b9), (u8 b.inn.addr.b10), (u8 b.inn.addr.b11), (u8 b.inn.addr.b12), (u8 b.inn.addr.b13), (u8 b.inn.addr.b14), (u8 b.inn.addr.b15), (Vi (b.inn.port)), (u8 b.out.addr.a), (u8 b.out.addr.b), (u8 b.out.addr.c), (u8 b.out.addr.d), (Vi (b.out.port)), (.bool (b.static)), (Vi (b.sessions))]) [(Vi (st.last + 1)), (Vi (b.proto)), (u8 b.inn.addr.b0), (u8 b.inn.addr.b1), (u8 b.inn.addr.b2), (u8 b.inn.addr.b3), (u8 b.inn.addr.b4), (u8 b.inn.addr.b5), (u8 b.inn.addr.b6), (u8 b.inn.addr.b7), (u8 b.inn.addr.b8), (u8 b.inn.addr.b9), (u8 b.inn.addr.b10), (u8 b.inn.addr.b11), (u8 b.inn.addr.b12), (u8 b.inn.addr.b13), (u8 b.inn.addr.b14), (u8 b.inn.addr.b15), (Vi (b.inn.port)), (u8 b.out.addr.a), (u8 b.out.addr.b), (u8 b.out.addr.c), (u8 b.out.addr.d), (Vi (b.out.port)), (.bool (b.static)), (Vi (b.sessions))] g81 (v := (bv (⟨st.last + 1, b.proto, b.inn, b.out, b.static, b.sessions⟩ : Binding))) rfl rfl sz36 hb84 rfl rfl rfl) ?_
  rintro _ w85 ⟨hb86, hk87⟩
  have ka88 := (Kp.fresh ka78 hk87 fun _ e => nl (nl hk6.size (Nat.le_refl _)) (Nat.le_of_eq e.symm))
  refine s_nil (hK82 _ _ (genC [(4, (Vp w4.heap.size 0))] ⟨g81, trivial⟩ ?_))
  clear hK82; rintro E ⟨g89, -⟩
  refine ret (hret _ _ [(bv (⟨st.last + 1, b.proto, b.inn, b.out, b.static, b.sessions⟩ : Binding))] ⟨⟨_, g89, (rd_agg (vs := [(Vi (st.last + 1)), (Vi (b.proto)), (u8 b.inn.addr.b0), (u8 b.inn.addr.b1), (u8 b.inn.addr.b2), (u8 b.inn.addr.b3), (u8 b.inn.addr.b4), (u8 b.inn.addr.b5), (u8 b.inn.addr.b6), (u8 b.inn.addr.b7), (u8 b.inn.addr.b8), (u8 b.inn.addr.b9), (u8 b.inn.addr.b10), (u8 b.inn.addr.b11), (u8 b.inn.addr.b12), (u8 b.inn.addr.b13), (u8 b.inn.addr.b14), (u8 b.inn.addr.b15), (Vi (b.inn.port)), (u8 b.out.addr.a), (u8 b.out.addr.b), (u8 b.out.addr.c), (u8 b.out.addr.d), (Vi (b.out.port)), (.bool (b.static)), (Vi (b.sessions))]) ag36 (On.now hb86) (by kernel_rfl) rfl)⟩, trivial⟩ ?_)
  have hb90 := (hk87.get (hk77.get (hk72.get0 (hk68.get0 (hk59.get (hk54.get0 (hk50.get0 (hk41.get (hk36.get0 (hk28.get hb18 (Nat.ne_of_lt (nt (lt_of_get hb0) (Nat.le_refl _))))) hn1))) (not_or.2 ⟨(blocks_ne h.nd (i := 0) (j := 2) (by decide) rfl rfl), (blocks_ne h.nd (i := 0) (j := 3) (by decide) rfl rfl)⟩)))) (not_or.2 ⟨(blocks_ne h.nd (i := 0) (j := 4) (by decide) rfl rfl), (blocks_ne h.nd (i := 0) (j := 5) (by decide) rfl rfl)⟩)) (Nat.ne_of_lt (nt (nt (lt_of_get hb0) hk6.size) (Nat.le_refl _))))
  have hf91 := (((((((hm40.kp hk50 id).kp hk54 id).kp hk59 (not_or.2 ⟨(blocks_ne h.nd (i := 1) (j := 2) (by decide) rfl rfl), (blocks_ne h.nd (i := 1) (j := 3) (by decide) rfl rfl)⟩)).kp hk68 id).kp hk72 id).kp hk77 (not_or.2 ⟨(blocks_ne h.nd (i := 1) (j := 4) (by decide) rfl rfl), (blocks_ne h.nd (i := 1) (j := 5) (by decide) rfl rfl)⟩)).kp hk87 (Nat.ne_of_lt (nt (nt (hm0.lt) hk6.size) (Nat.le_refl _))))
  have hb92 := (hk87.get hb83 (Nat.ne_of_lt (nt (lt_of_get hb5) (Nat.le_refl _))))
  have hf93 := (IxIs.kp (IxIs.kp (IxIs.kp (IxIs.kp hX1 hk68 id id) hk72 id id) hk77 (not_or.2 ⟨(blocks_ne h.nd (i := 2) (j := 4) (by decide) rfl rfl), (blocks_ne h.nd (i := 2) (j := 5) (by decide) rfl rfl)⟩) (not_or.2 ⟨(blocks_ne h.nd (i := 3) (j := 4) (by decide) rfl rfl), (blocks_ne h.nd (i := 3) (j := 5) (by decide) rfl rfl)⟩)) hk87 (Nat.ne_of_lt (nt (nt ((IxIs.lt hxi).1) hk6.size) (Nat.le_refl _))) (Nat.ne_of_lt (nt (nt ((IxIs.lt hxi).2) hk6.size) (Nat.le_refl _))))
  have hf94 := (IxIs.kp hX2 hk87 (Nat.ne_of_lt (nt (nt ((IxIs.lt hxo).1) hk6.size) (Nat.le_refl _))) (Nat.ne_of_lt (nt (nt ((IxIs.lt hxo).2) hk6.size) (Nat.le_refl _))))
  exact ⟨⟨w.heap.size, rfl, Nat.le_refl _, BibIs.add h ka88 ⟨st.last + 1, b.proto, b.inn, b.out, b.static, b.sessions⟩ w.heap.size (Nat.le_refl _) hb90 hf91 hb92 hki hko hf93 hf94⟩, ka88⟩

end Go.Proofs.YtdcnblafepgheaaDoor
