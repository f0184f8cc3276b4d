/-
  Written by a program (wip/walks).
-/
import Derived.Test.YtdcnblafepgheaaDoorE14
namespace Go.Proofs.YtdcnblafepgheaaDoor
open Go Go.V
set_option maxRecDepth 100000
theorem bfp_add {g : BibG} {st : BibS} {x : Int} {l' : Binding} {y : Nat} {hh : Nat → List (T4 × Bool)} {b : Nat} (hb : b ∈ bfp g ⟨x, st.l ++ [(l', y)], hh⟩) : b ∈ bfp g st ∨ b = y := by
  unfold bfp at *
  simp only [List.map_append, List.map_cons, List.map_nil, List.mem_append, List.mem_singleton] at *
  rcases hb with h | h | h
  · exact .inl (.inl h)
  · exact .inl (.inr h)
  · exact .inr h
theorem setH_id (h : Nat → List (T4 × Bool)) (k : Nat) : setH h k (h k) = h := by
  funext j; unfold setH; split
  · rename_i e; rw [e]
  · rfl
theorem mayE_zero {g : BibG} {st : BibS} {p : Int} {t : T6} (h : mayE g st p t = 0) : ¬ kindI p < 0 ∧ isPort t.port ∧ lookIn st.l p t = none ∧ (st.l.length : Int) < g.max := by
  unfold mayE at h
  split at h
  · cases h
  · rename_i h1
    split at h
    · rename_i h2
      split at h
      · cases h
      · rename_i h3
        split at h
        · cases h
        · rename_i h4
          refine ⟨h1, h2, ?_, by omega⟩
          cases hl : lookIn st.l p t with
          | none => rfl
          | some q => rw [hl] at h3; simp at h3
    · cases h
theorem take_out {g : PoolG} {held : List (T4 × Bool)} {a : V4} {x : Int} {plain : Bool} {r : T4} (hx : isPort x) (h : TakeQ g held a x plain (some r)) : g.low ≤ r.port ∧ r.port ≤ g.high ∧ aget held r = none := by
  unfold TakeQ at h
  rw [if_pos hx] at h
  exact ⟨h.1, h.2.1, h.2.2.1.1⟩
theorem out_none {l : List (Binding × Nat)} {held : List (T4 × Bool)} {p : Int} {r : T4} (hout : ∀ q ∈ l, q.1.proto = p → aget held q.1.out ≠ none) (h : aget held r = none) : lookOut l p r = none := by
  unfold lookOut
  rw [List.find?_eq_none]
  intro q hq hc
  simp only [decide_eq_true_eq] at hc
  exact hout q hq hc.1 (by rw [hc.2]; exact h)
theorem add_0 {g : BibG} {st : BibS} {w : World} (ok : BibOk g) (h : BibIs g st w) (t : T6) (ht : -9223372036854775808 ≤ t.port ∧ t.port ≤ 9223372036854775807) (h1 : ∀ q ∈ st.l, 1 ≤ q.1.id) (hle : ∀ q ∈ st.l, q.1.id ≤ st.last) (hla : 0 ≤ st.last ∧ st.last ≤ 4611686018427387904) (hout : ∀ q ∈ st.l, q.1.proto = 1 → aget (st.h 0) q.1.out ≠ none) : Rets Tryd.prog 13 #[(.pointer (some ⟨g.tb, 0, none⟩)), (.int .i64 1), (t6 t)] w fun v w' => ((mayE g st 1 t ≠ 0 ∧ v = .tuple #[bv zeroB, .int .i64 (mayE g st 1 t)] ∧ BibIs g st w') ∨ (mayE g st 1 t = 0 ∧ (∃ a, PairR g st.l t.addr a ∧ TakeQ (g.p 0) (st.h 0) a t.port (decide ((1 : Int) = 1)) none) ∧ v = .tuple #[bv zeroB, .int .i64 13] ∧ BibIs g st w') ∨ (mayE g st 1 t = 0 ∧ ∃ r x, (∃ a, PairR g st.l t.addr a ∧ TakeQ (g.p 0) (st.h 0) a t.port (decide ((1 : Int) = 1)) (some r)) ∧ v = .tuple #[bv ⟨st.last + 1, 1, t, r, false, 0⟩, .int .i64 0] ∧ w.heap.size ≤ x ∧ BibIs g ⟨st.last + 1, st.l ++ [(⟨st.last + 1, 1, t, r, false, 0⟩, x)], setH st.h 0 (st.h 0 ++ [(r, false)])⟩ w')) ∧ Kp (fun k => k = g.tb ∨ k = g.mb ∨ k = g.i1.ib ∨ k = g.i1.sb ∨ k = g.i2.ib ∨ k = g.i2.sb ∨ k = (g.p 0).mb) w w' := by
  refine enter Tryd.func13 rfl Tryd.ntmps13 rfl fun Q hret hend E hE => ?_
  have g1 : E 0 = (Vp g.tb 0) := hE 0
  have g2 : E 1 = (Vi 1) := hE 1
  have g3 : E 2 = (t6 t) := hE 2
  clear hE
  have hb0 := h.blk; have hm0 := h.map; have hT0 := h.tb; have hn1 : g.tb ≠ g.mb := blk_ne_map h.blk h.map
  refine seq fun K4 hK4 => ?_
  refine reg ?_
  refine s_e (e_box (v := (t6 t)) g3) rfl ?_
  rintro _ w5 ⟨rfl, hb6, hk7⟩
  have ka8 : Kp (fun k => k = g.tb ∨ k = g.mb ∨ k = g.i1.ib ∨ k = g.i1.sb ∨ k = g.i2.ib ∨ k = g.i2.sb ∨ k = (g.p 0).mb) w w5 := (Kp.then0 (Kp.refl _ _) hk7)
  refine s_e (e_alloc ze36) rfl ?_
  rintro _ w9 ⟨rfl, hb10, hk11⟩
  have ka12 := (Kp.then0 ka8 hk11)
  refine s_y (y_assign (v := (Vi 0)) rfl) rfl ?_
  refine s_nil (hK4 _ _ (genC [(0, (Vp g.tb 0)), (1, (Vi 1)), (5, (Vp w.heap.size 0)), (6, (Vp w5.heap.size 0))] ⟨g1, g2, rfl, rfl, trivial⟩ ?_))
  clear hK4; rintro E ⟨g13, g14, g15, g16, -⟩
  refine seq fun K17 hK17 => ?_
  refine seq fun K18 hK18 => ?_
  refine reg ?_
  refine s_y (y_move (v := (Vp g.tb 0)) g13) rfl ?_
  refine s_y (y_move (v := (Vi 1)) g14) rfl ?_
  have hb19 := (hk11.get0 hb6)
  refine s_y (y_load (v := (t6 t)) g15 (rd_agg (vs := t.cs) ag32 (On.now hb19) (by kernel_rfl) rfl)) rfl ?_
  have hf20 := (BibIs.k0 (BibIs.k0 h hk7) hk11)
  refine s_e (e_call ca46 (args := [(Vp g.tb 0), (Vi 1), (t6 t)]) rfl (mayb_spec ok hf20 1 t (by omega) (by omega))) rfl ?_
  rintro _ w21 ⟨rfl, hk22⟩
  have ka23 := (Kp.then0 ka12 hk22)
  refine s_y (y_assign (v := (Vi ((mayE g st 1 t)))) rfl) rfl ?_
  refine s_nil (hK18 _ _ (genC [(0, (Vp g.tb 0)), (1, (Vi 1)), (5, (Vp w.heap.size 0)), (6, (Vp w5.heap.size 0)), (8, (Vi ((mayE g st 1 t))))] ⟨g13, g14, g15, g16, rfl, trivial⟩ ?_))
  clear hK18; rintro E ⟨g24, g25, g26, g27, g28, -⟩
  refine seq fun K29 hK29 => ?_
  refine reg ?_
  refine s_y (y_move (v := (Vi ((mayE g st 1 t)))) g28) rfl ?_
  refine s_y (y_neq rfl rfl) rfl ?_
  refine s_nil (hK29 _ _ (genC [(0, (Vp g.tb 0)), (1, (Vi 1)), (5, (Vp w.heap.size 0)), (6, (Vp w5.heap.size 0)), (8, (Vi ((mayE g st 1 t)))), (16, (.bool (decide (((mayE g st 1 t) : Int) ≠ 0))))] ⟨g24, g25, g26, g27, g28, rfl, trivial⟩ ?_))
  clear hK29; rintro E ⟨g30, g31, g32, g33, g34, g35, -⟩
  refine cond_d g35 (fun c36 => ?_) (fun c36 => ?_)
  · refine seq fun K37 hK37 => ?_
    refine reg ?_
    refine s_y (y_build (vs := []) (v := (.agg zBc.toArray)) rfl (fun _ => by kernel_rfl)) rfl ?_
    refine s_y (y_move (v := (Vi ((mayE g st 1 t)))) g34) rfl ?_
    have hb38 := (hk22.get0 hb10)
    refine s_e0 (e_storeV (cs' := zBc.toArray) zBc g33 (v := (.agg zBc.toArray)) rfl rfl sz36 hb38 rfl rfl rfl) ?_
    rintro _ w39 ⟨hb40, hk41⟩
    have ka42 := (Kp.fresh ka23 hk41 fun _ e => nl (nl hk7.size (Nat.le_refl _)) (Nat.le_of_eq e.symm))
    refine s_y (y_assign (v := (Vi ((mayE g st 1 t)))) rfl) rfl ?_
    refine s_nil (hK37 _ _ (genC [(6, (Vp w5.heap.size 0)), (7, (Vi ((mayE g st 1 t))))] ⟨g33, rfl, trivial⟩ ?_))
    clear hK37; rintro E ⟨g43, g44, -⟩
    refine ret (hret _ _ [(bv (⟨0, 0, (⟨(⟨0, 0, 0, 0, 0, 0, 0, 0, 0, 0, 0, 0, 0, 0, 0, 0⟩ : V6), 0⟩ : T6), (⟨(⟨0, 0, 0, 0⟩ : V4), 0⟩ : T4), false, 0⟩ : Binding)), (Vi ((mayE g st 1 t)))] ⟨⟨_, g43, (rd_agg (vs := zBc) ag36 (On.now hb40) (by kernel_rfl) rfl)⟩, g44, trivial⟩ ?_)
    have hf45 := (BibIs.kp (BibIs.k0 hf20 hk22) hk41 (fun b hb => (fun e => (fun hb => Nat.lt_irrefl _ (nt (BibIs.lt h _ hb) (nl hk7.size (Nat.le_refl _)))) (e ▸ hb))) (Nat.ne_of_lt (nt (nt (hT0.lt) hk7.size) (Nat.le_refl _))))
    exact ⟨.inl ⟨c36, rfl, hf45⟩, ka42⟩
  · refine skip (hK17 _ _ (genC [(0, (Vp g.tb 0)), (1, (Vi 1)), (5, (Vp w.heap.size 0)), (6, (Vp w5.heap.size 0))] ⟨g30, g31, g32, g33, trivial⟩ ?_))
    clear hK17; rintro E ⟨g46, g47, g48, g49, -⟩
    refine seq fun K50 hK50 => ?_
    refine reg ?_
    refine s_y (y_move (v := (Vp g.tb 0)) g46) rfl ?_
    refine s_y (y_move (v := (Vi 1)) g47) rfl ?_
    have hb51 := (hk22.get0 hb19)
    refine s_y (y_load (v := (t6 t)) g48 (rd_agg (vs := t.cs) ag32 (On.now hb51) (by kernel_rfl) rfl)) rfl ?_
    have hf52 := (BibIs.k0 hf20 hk22)
    refine s_e (e_call ca47 (args := [(Vp g.tb 0), (Vi 1), (t6 t)]) rfl (take_0 ok hf52 t h1)) rfl ?_
    rintro _ w53 ⟨⟨a55, hpr57, htq58, hB59, rfl⟩ | ⟨a55, r56, hpr57, htq58, hB59, rfl⟩, hk54⟩
    · have ka60 := (Kp.trans ka23 hk54 (fun _ _ e => (fun e => (.inr (.inr (.inr (.inr (.inr (.inr e))))))) e))
      rw [setH_id] at hB59
      refine s_y (y_move (v := (.tuple #[(t4 zeroT4), (Vi 13)])) rfl) rfl ?_
      refine s_y (y_ext rfl (v := (t4 zeroT4)) rfl) rfl ?_
      refine s_y (y_ext rfl (v := (Vi 13)) rfl) rfl ?_
      refine s_e (e_alloc ze34) rfl ?_
      rintro _ w61 ⟨rfl, hb62, hk63⟩
      have ka64 := (Kp.then0 ka60 hk63)
      refine s_e0 (e_storeV (cs' := zeroT4.cs.toArray) zeroT4.cs rfl (v := (t4 zeroT4)) rfl rfl sz34 hb62 rfl rfl rfl) ?_
      rintro _ w65 ⟨hb66, hk67⟩
      have hz69 := (nl (nl (nl hk7.size hk11.size) hk22.size) hk54.size)
      have ka68 := (Kp.fresh ka64 hk67 fun _ e => nl (nl hz69 (Nat.le_refl _)) (Nat.le_of_eq e.symm))
      refine s_y (y_assign (v := (Vi 13)) rfl) rfl ?_
      refine s_nil (hK50 _ _ (genC [(0, (Vp g.tb 0)), (1, (Vi 1)), (5, (Vp w.heap.size 0)), (6, (Vp w5.heap.size 0)), (9, (Vp w53.heap.size 0)), (10, (Vi 13))] ⟨g46, g47, g48, g49, rfl, rfl, trivial⟩ ?_))
      clear hK50; rintro E ⟨g70, g71, g72, g73, g74, g75, -⟩
      refine seq fun K76 hK76 => ?_
      refine seq fun K77 hK77 => ?_
      refine reg ?_
      refine s_y (y_move (v := (Vi 13)) g75) rfl ?_
      refine s_y (y_neq rfl rfl) rfl ?_
      refine s_nil (hK77 _ _ (genC [(0, (Vp g.tb 0)), (1, (Vi 1)), (5, (Vp w.heap.size 0)), (6, (Vp w5.heap.size 0)), (9, (Vp w53.heap.size 0)), (10, (Vi 13)), (27, Vt)] ⟨g70, g71, g72, g73, g74, g75, rfl, trivial⟩ ?_))
      clear hK77; rintro E ⟨g78, g79, g80, g81, g82, g83, g84, -⟩
      refine cond_t g84 ?_
      refine seq fun K85 hK85 => ?_
      refine reg ?_
      refine s_y (y_build (vs := []) (v := (.agg zBc.toArray)) rfl (fun _ => by kernel_rfl)) rfl ?_
      refine s_y (y_move (v := (Vi 13)) g83) rfl ?_
      have hb86 := (hk67.get (hk63.get0 (hk54.get (hk22.get0 hb10) (Nat.ne_of_gt (nt (nt ((BibIs.lt h _ (mem_blocks (List.mem_of_getElem? (i := 8) (rfl : g.blocks[8]? = some (g.p 0).mb))))) hk7.size) (Nat.le_refl _))))) (Nat.ne_of_lt (nt (nt (lt_of_get hb10) (nl hk22.size hk54.size)) (Nat.le_refl _))))
      refine s_e0 (e_storeV (cs' := zBc.toArray) zBc g81 (v := (.agg zBc.toArray)) rfl rfl sz36 hb86 rfl rfl rfl) ?_
      rintro _ w87 ⟨hb88, hk89⟩
      have ka90 := (Kp.fresh ka68 hk89 fun _ e => nl (nl hk7.size (Nat.le_refl _)) (Nat.le_of_eq e.symm))
      refine s_y (y_assign (v := (Vi 13)) rfl) rfl ?_
      refine s_nil (hK85 _ _ (genC [(6, (Vp w5.heap.size 0)), (7, (Vi 13))] ⟨g81, rfl, trivial⟩ ?_))
      clear hK85; rintro E ⟨g91, g92, -⟩
      refine ret (hret _ _ [(bv (⟨0, 0, (⟨(⟨0, 0, 0, 0, 0, 0, 0, 0, 0, 0, 0, 0, 0, 0, 0, 0⟩ : V6), 0⟩ : T6), (⟨(⟨0, 0, 0, 0⟩ : V4), 0⟩ : T4), false, 0⟩ : Binding)), (Vi 13)] ⟨⟨_, g91, (rd_agg (vs := zBc) ag36 (On.now hb88) (by kernel_rfl) rfl)⟩, g92, trivial⟩ ?_)
      have hf93 := (BibIs.kp (BibIs.kp (BibIs.k0 hB59 hk63) hk67 (fun b hb => (fun e => (fun hb => Nat.lt_irrefl _ (nt (BibIs.lt h _ hb) (nl hz69 (Nat.le_refl _)))) (e ▸ hb))) (Nat.ne_of_lt (nt (nt (hT0.lt) hz69) (Nat.le_refl _)))) hk89 (fun b hb => (fun e => (fun hb => Nat.lt_irrefl _ (nt (BibIs.lt h _ hb) (nl hk7.size (Nat.le_refl _)))) (e ▸ hb))) (Nat.ne_of_lt (nt (nt (hT0.lt) hk7.size) (Nat.le_refl _))))
      exact ⟨.inr (.inl ⟨Decidable.not_not.1 c36, ⟨_, hpr57, htq58⟩, rfl, hf93⟩), ka90⟩
    · have ka94 := (Kp.trans ka23 hk54 (fun _ _ e => (fun e => (.inr (.inr (.inr (.inr (.inr (.inr e))))))) e))
      obtain ⟨hm1, hm2, hm3, hm4⟩ := mayE_zero (Decidable.not_not.1 c36)
      obtain ⟨ho1, ho2, ho3⟩ := take_out hm2 htq58; have hlo9 := (ok.pool 0 (by omega)).lo; have hhi9 := (ok.pool 0 (by omega)).hi
      refine s_y (y_move (v := (.tuple #[(t4 r56), (Vi 0)])) rfl) rfl ?_
      refine s_y (y_ext rfl (v := (t4 r56)) rfl) rfl ?_
      refine s_y (y_ext rfl (v := (Vi 0)) rfl) rfl ?_
      refine s_e (e_alloc ze34) rfl ?_
      rintro _ w95 ⟨rfl, hb96, hk97⟩
      have ka98 := (Kp.then0 ka94 hk97)
      refine s_e0 (e_storeV (cs' := r56.cs.toArray) r56.cs rfl (v := (t4 r56)) rfl rfl sz34 hb96 rfl rfl rfl) ?_
      rintro _ w99 ⟨hb100, hk101⟩
      have hz103 := (nl (nl (nl hk7.size hk11.size) hk22.size) hk54.size)
      have ka102 := (Kp.fresh ka98 hk101 fun _ e => nl (nl hz103 (Nat.le_refl _)) (Nat.le_of_eq e.symm))
      refine s_y (y_assign (v := (Vi 0)) rfl) rfl ?_
      refine s_nil (hK50 _ _ (genC [(0, (Vp g.tb 0)), (1, (Vi 1)), (5, (Vp w.heap.size 0)), (6, (Vp w5.heap.size 0)), (9, (Vp w53.heap.size 0)), (10, (Vi 0))] ⟨g46, g47, g48, g49, rfl, rfl, trivial⟩ ?_))
      clear hK50; rintro E ⟨g104, g105, g106, g107, g108, g109, -⟩
      refine seq fun K110 hK110 => ?_
      refine seq fun K111 hK111 => ?_
      refine reg ?_
      refine s_y (y_move (v := (Vi 0)) g109) rfl ?_
      refine s_y (y_neq rfl rfl) rfl ?_
      refine s_nil (hK111 _ _ (genC [(0, (Vp g.tb 0)), (1, (Vi 1)), (5, (Vp w.heap.size 0)), (6, (Vp w5.heap.size 0)), (9, (Vp w53.heap.size 0)), (10, (Vi 0)), (27, Vf)] ⟨g104, g105, g106, g107, g108, g109, rfl, trivial⟩ ?_))
      clear hK111; rintro E ⟨g112, g113, g114, g115, g116, g117, g118, -⟩
      refine cond_f g118 ?_
      refine skip (hK110 _ _ (genC [(0, (Vp g.tb 0)), (1, (Vi 1)), (5, (Vp w.heap.size 0)), (6, (Vp w5.heap.size 0)), (9, (Vp w53.heap.size 0))] ⟨g112, g113, g114, g115, g116, trivial⟩ ?_))
      clear hK110; rintro E ⟨g119, g120, g121, g122, g123, -⟩
      refine seq fun K124 hK124 => ?_
      refine reg ?_
      refine s_y (y_move (v := (Vp g.tb 0)) g119) rfl ?_
      refine s_y (y_move (v := (Vi 1)) g120) rfl ?_
      have hb125 := (hk101.get (hk97.get0 (hk54.get hb51 (Nat.ne_of_gt (nt ((BibIs.lt h _ (mem_blocks (List.mem_of_getElem? (i := 8) (rfl : g.blocks[8]? = some (g.p 0).mb))))) (Nat.le_refl _))))) (Nat.ne_of_lt (nt (nt (lt_of_get hb51) hk54.size) (Nat.le_refl _))))
      refine s_y (y_load (v := (t6 t)) g121 (rd_agg (vs := t.cs) ag32 (On.now hb125) (by kernel_rfl) rfl)) rfl ?_
      refine s_y (y_load (v := (t4 r56)) g123 (rd_agg (vs := r56.cs) ag34 (On.now hb100) (by kernel_rfl) rfl)) rfl ?_
      refine s_y (y_build (vs := [(1, (Vi 1)), (2, (t6 t)), (3, (t4 r56))]) (v := (.agg #[.int .i64 0, .int .i64 1, u8 t.addr.b0, u8 t.addr.b1, u8 t.addr.b2, u8 t.addr.b3, u8 t.addr.b4, u8 t.addr.b5, u8 t.addr.b6, u8 t.addr.b7, u8 t.addr.b8, u8 t.addr.b9, u8 t.addr.b10, u8 t.addr.b11, u8 t.addr.b12, u8 t.addr.b13, u8 t.addr.b14, u8 t.addr.b15, .int .i64 (t.port), u8 r56.addr.a, u8 r56.addr.b, u8 r56.addr.c, u8 r56.addr.d, .int .i64 (r56.port), .bool false, .int .i64 0])) rfl (fun _ => by kernel_rfl)) rfl ?_
      have hf126 := (BibIs.kp (BibIs.k0 hB59 hk97) hk101 (fun b hb => (fun e => (fun hb => Nat.lt_irrefl _ (nt (BibIs.lt h _ hb) (nl hz103 (Nat.le_refl _)))) (e ▸ hb))) (Nat.ne_of_lt (nt (nt (hT0.lt) hz103) (Nat.le_refl _))))
      refine s_e (e_call ca48 (args := [(Vp g.tb 0), (.agg #[.int .i64 0, .int .i64 1, u8 t.addr.b0, u8 t.addr.b1, u8 t.addr.b2, u8 t.addr.b3, u8 t.addr.b4, u8 t.addr.b5, u8 t.addr.b6, u8 t.addr.b7, u8 t.addr.b8, u8 t.addr.b9, u8 t.addr.b10, u8 t.addr.b11, u8 t.addr.b12, u8 t.addr.b13, u8 t.addr.b14, u8 t.addr.b15, .int .i64 (t.port), u8 r56.addr.a, u8 r56.addr.b, u8 r56.addr.c, u8 r56.addr.d, .int .i64 (r56.port), .bool false, .int .i64 0])]) rfl (putb_spec ok hf126 (⟨0, 1, t, r56, false, 0⟩ : Binding) (show -9223372036854775808 ≤ (1 : Int) ∧ (1 : Int) ≤ 9223372036854775807 from ⟨by decide, by decide⟩) ht (show _ ∧ _ from ⟨by show _ ≤ r56.port; omega, by show r56.port ≤ _; omega⟩) hle hla hm4 hm3 (out_none hout ho3))) rfl ?_
      rintro _ w127 ⟨⟨x129, rfl, hx130, hP131⟩, hk128⟩
      have ka132 := (Kp.trans ka102 hk128 (fun _ _ e => (fun e => e.elim (fun e => (.inl e)) (fun e => e.elim (fun e => (.inr (.inl e))) (fun e => e.elim (fun e => (.inr (.inr (.inl e)))) (fun e => e.elim (fun e => (.inr (.inr (.inr (.inl e))))) (fun e => e.elim (fun e => (.inr (.inr (.inr (.inr (.inl e)))))) (fun e => (.inr (.inr (.inr (.inr (.inr (.inl e)))))))))))) e))
      have hb133 := BibIs.blk hP131; have hm134 := BibIs.map hP131; have hT135 := BibIs.tb hP131
      have hb136 := (hk128.get (hk101.get (hk97.get0 (hk54.get (hk22.get0 hb10) (Nat.ne_of_gt (nt (nt ((BibIs.lt h _ (mem_blocks (List.mem_of_getElem? (i := 8) (rfl : g.blocks[8]? = some (g.p 0).mb))))) hk7.size) (Nat.le_refl _))))) (Nat.ne_of_lt (nt (nt (lt_of_get hb10) (nl hk22.size hk54.size)) (Nat.le_refl _)))) (not_or.2 ⟨(Nat.ne_of_gt (nt (nt (lt_of_get hb0) hk7.size) (Nat.le_refl _))), (not_or.2 ⟨(Nat.ne_of_gt (nt (nt (hm0.lt) hk7.size) (Nat.le_refl _))), (not_or.2 ⟨(Nat.ne_of_gt (nt (nt ((BibIs.lt h _ (mem_blocks (List.mem_of_getElem? (i := 2) (rfl : g.blocks[2]? = some g.i1.ib))))) hk7.size) (Nat.le_refl _))), (not_or.2 ⟨(Nat.ne_of_gt (nt (nt ((BibIs.lt h _ (mem_blocks (List.mem_of_getElem? (i := 3) (rfl : g.blocks[3]? = some g.i1.sb))))) hk7.size) (Nat.le_refl _))), (not_or.2 ⟨(Nat.ne_of_gt (nt (nt ((BibIs.lt h _ (mem_blocks (List.mem_of_getElem? (i := 4) (rfl : g.blocks[4]? = some g.i2.ib))))) hk7.size) (Nat.le_refl _))), (Nat.ne_of_gt (nt (nt ((BibIs.lt h _ (mem_blocks (List.mem_of_getElem? (i := 5) (rfl : g.blocks[5]? = some g.i2.sb))))) hk7.size) (Nat.le_refl _)))⟩)⟩)⟩)⟩)⟩))
      refine s_e0 (e_storeV (cs' := #[(Vi ((⟨st.last + 1, 1, t, r56, false, 0⟩ : Binding).id)), (Vi ((⟨st.last + 1, 1, t, r56, false, 0⟩ : Binding).proto)), (u8 (((⟨st.last + 1, 1, t, r56, false, 0⟩ : Binding).inn).addr).b0), (u8 (((⟨st.last + 1, 1, t, r56, false, 0⟩ : Binding).inn).addr).b1), (u8 (((⟨st.last + 1, 1, t, r56, false, 0⟩ : Binding).inn).addr).b2), (u8 (((⟨st.last + 1, 1, t, r56, false, 0⟩ : Binding).inn).addr).b3), (u8 (((⟨st.last + 1, 1, t, r56, false, 0⟩ : Binding).inn).addr).b4), (u8 (((⟨st.last + 1, 1, t, r56, false, 0⟩ : Binding).inn).addr).b5), (u8 (((⟨st.last + 1, 1, t, r56, false, 0⟩ : Binding).inn).addr).b6), (u8 (((⟨st.last + 1, 1, t, r56, false, 0⟩ : Binding).inn).addr).b7), (u8 (((⟨st.last + 1, 1, t, r56, false, 0⟩ : Binding).inn).addr).b8), (u8 (((⟨st.last + 1, 1, t, r56, false, 0⟩ : Binding).inn).addr).b9), (u8 (((⟨st.last + 1, 1, t, r56, false, 0⟩ : Binding).inn).addr).b10), (u8 (((⟨st.last + 1, 1, t, r56, false, 0⟩ : Binding).inn).addr).b11), (u8 (((⟨st.last + 1, 1, t, r56, false, 0⟩ : Binding).inn).addr).b12), (u8 (((⟨st.last + 1, 1, t, r56, false, 0⟩ : Binding).inn).addr).b13), (u8 (((⟨st.last + 1, 1, t, r56, false, 0⟩ : Binding).inn).addr).b14), (u8 (((⟨st.last + 1, 1, t, r56, false, 0⟩ : Binding).inn).addr).b15), (Vi (((⟨st.last + 1, 1, t, r56, false, 0⟩ : Binding).inn).port)), (u8 (((⟨st.last + 1, 1, t, r56, false, 0⟩ : Binding).out).addr).a), (u8 (((⟨st.last + 1, 1, t, r56, false, 0⟩ : Binding).out).addr).b), (u8 (((⟨st.last + 1, 1, t, r56, false, 0⟩ : Binding).out).addr).c), (u8 (((⟨st.last + 1, 1, t, r56, false, 0⟩ : Binding).out).addr).d), (Vi (((⟨st.last + 1, 1, t, r56, false, 0⟩ : Binding).out).port)), (.bool ((⟨st.last + 1, 1, t, r56, false, 0⟩ : Binding).static)), (Vi ((⟨st.last + 1, 1, t, r56, false, 0⟩ : Binding).sessions))]) [(Vi ((⟨st.last + 1, 1, t, r56, false, 0⟩ : Binding).id)), (Vi ((⟨st.last + 1, 1, t, r56, false, 0⟩ : Binding).proto)), (u8 (((⟨st.last + 1, 1, t, r56, false, 0⟩ : Binding).inn).addr).b0), (u8 (((⟨st.last + 1, 1, t, r56, false, 0⟩ : Binding).inn).addr).b1), (u8 (((⟨st.last + 1, 1, t, r56, false, 0⟩ : Binding).inn).addr).b2), (u8 (((⟨st.last + 1, 1, t, r56, false, 0⟩ : Binding).inn).addr).b3), (u8 (((⟨st.last + 1, 1, t, r56, false, 0⟩ : Binding).inn).addr).b4), (u8 (((⟨st.last + 1, 1, t, r56, false, 0⟩ : Binding).inn).addr).b5), (u8 (((⟨st.last + 1, 1, t, r56, false, 0⟩ : Binding).inn).addr).b6), (u8 (((⟨st.last + 1, 1, t, r56, false, 0⟩ : Binding).inn).addr).b7), (u8 (((⟨st.last + 1, 1, t, r56, false, 0⟩ : Binding).inn).addr).b8), (u8 (((⟨st.last + 1, 1, t, r56, false, 0⟩ : Binding).inn).addr).b9), (u8 (((⟨st.last + 1, 1, t, r56, false, 0⟩ : Binding).inn).addr).b10), (u8 (((⟨st.last + 1, 1, t, r56, false, 0⟩ : Binding).inn).addr).b11), (u8 (((⟨st.last + 1, 1, t, r56, false, 0⟩ : Binding).inn).addr).b12), (u8 (((⟨st.last + 1, 1, t, r56, false, 0⟩ : Binding).inn).addr).b13), (u8 (((⟨st.last + 1, 1, t, r56, false, 0⟩ : Binding).inn).addr).b14), (u8 (((⟨st.last + 1, 1, t, r56, false, 0⟩ : Binding).inn).addr).b15), (Vi (((⟨st.last + 1, 1, t, r56, false, 0⟩ : Binding).inn).port)), (u8 (((⟨st.last + 1, 1, t, r56, false, 0⟩ : Binding).out).addr).a), (u8 (((⟨st.last + 1, 1, t, r56, false, 0⟩ : Binding).out).addr).b), (u8 (((⟨st.last + 1, 1, t, r56, false, 0⟩ : Binding).out).addr).c), (u8 (((⟨st.last + 1, 1, t, r56, false, 0⟩ : Binding).out).addr).d), (Vi (((⟨st.last + 1, 1, t, r56, false, 0⟩ : Binding).out).port)), (.bool ((⟨st.last + 1, 1, t, r56, false, 0⟩ : Binding).static)), (Vi ((⟨st.last + 1, 1, t, r56, false, 0⟩ : Binding).sessions))] g122 (v := (bv (⟨st.last + 1, 1, t, r56, false, 0⟩ : Binding))) rfl rfl sz36 hb136 rfl rfl rfl) ?_
      rintro _ w137 ⟨hb138, hk139⟩
      have ka140 := (Kp.fresh ka132 hk139 fun _ e => nl (nl hk7.size (Nat.le_refl _)) (Nat.le_of_eq e.symm))
      refine s_y (y_assign (v := (Vi 0)) rfl) rfl ?_
      refine s_nil (hK124 _ _ (genC [(6, (Vp w5.heap.size 0)), (7, (Vi 0))] ⟨g122, rfl, trivial⟩ ?_))
      clear hK124; rintro E ⟨g141, g142, -⟩
      refine ret (hret _ _ [(bv (⟨(⟨st.last + 1, 1, t, r56, false, 0⟩ : Binding).id, (⟨st.last + 1, 1, t, r56, false, 0⟩ : Binding).proto, (⟨(((⟨st.last + 1, 1, t, r56, false, 0⟩ : Binding).inn).addr), ((⟨st.last + 1, 1, t, r56, false, 0⟩ : Binding).inn).port⟩ : T6), (⟨(((⟨st.last + 1, 1, t, r56, false, 0⟩ : Binding).out).addr), ((⟨st.last + 1, 1, t, r56, false, 0⟩ : Binding).out).port⟩ : T4), (⟨st.last + 1, 1, t, r56, false, 0⟩ : Binding).static, (⟨st.last + 1, 1, t, r56, false, 0⟩ : Binding).sessions⟩ : Binding)), (Vi 0)] ⟨⟨_, g141, (rd_agg (vs := [(Vi ((⟨st.last + 1, 1, t, r56, false, 0⟩ : Binding).id)), (Vi ((⟨st.last + 1, 1, t, r56, false, 0⟩ : Binding).proto)), (u8 (((⟨st.last + 1, 1, t, r56, false, 0⟩ : Binding).inn).addr).b0), (u8 (((⟨st.last + 1, 1, t, r56, false, 0⟩ : Binding).inn).addr).b1), (u8 (((⟨st.last + 1, 1, t, r56, false, 0⟩ : Binding).inn).addr).b2), (u8 (((⟨st.last + 1, 1, t, r56, false, 0⟩ : Binding).inn).addr).b3), (u8 (((⟨st.last + 1, 1, t, r56, false, 0⟩ : Binding).inn).addr).b4), (u8 (((⟨st.last + 1, 1, t, r56, false, 0⟩ : Binding).inn).addr).b5), (u8 (((⟨st.last + 1, 1, t, r56, false, 0⟩ : Binding).inn).addr).b6), (u8 (((⟨st.last + 1, 1, t, r56, false, 0⟩ : Binding).inn).addr).b7), (u8 (((⟨st.last + 1, 1, t, r56, false, 0⟩ : Binding).inn).addr).b8), (u8 (((⟨st.last + 1, 1, t, r56, false, 0⟩ : Binding).inn).addr).b9), (u8 (((⟨st.last + 1, 1, t, r56, false, 0⟩ : Binding).inn).addr).b10), (u8 (((⟨st.last + 1, 1, t, r56, false, 0⟩ : Binding).inn).addr).b11), (u8 (((⟨st.last + 1, 1, t, r56, false, 0⟩ : Binding).inn).addr).b12), (u8 (((⟨st.last + 1, 1, t, r56, false, 0⟩ : Binding).inn).addr).b13), (u8 (((⟨st.last + 1, 1, t, r56, false, 0⟩ : Binding).inn).addr).b14), (u8 (((⟨st.last + 1, 1, t, r56, false, 0⟩ : Binding).inn).addr).b15), (Vi (((⟨st.last + 1, 1, t, r56, false, 0⟩ : Binding).inn).port)), (u8 (((⟨st.last + 1, 1, t, r56, false, 0⟩ : Binding).out).addr).a), (u8 (((⟨st.last + 1, 1, t, r56, false, 0⟩ : Binding).out).addr).b), (u8 (((⟨st.last + 1, 1, t, r56, false, 0⟩ : Binding).out).addr).c), (u8 (((⟨st.last + 1, 1, t, r56, false, 0⟩ : Binding).out).addr).d), (Vi (((⟨st.last + 1, 1, t, r56, false, 0⟩ : Binding).out).port)), (.bool ((⟨st.last + 1, 1, t, r56, false, 0⟩ : Binding).static)), (Vi ((⟨st.last + 1, 1, t, r56, false, 0⟩ : Binding).sessions))]) ag36 (On.now hb138) (by kernel_rfl) rfl)⟩, g142, trivial⟩ ?_)
      have hz143 := (nl (nl (nl hk22.size hk54.size) hk97.size) hk101.size)
      have hf144 := (BibIs.kp hP131 hk139 (fun b hb => (fun e => (fun hb => (bfp_add hb).elim (fun hb => Nat.lt_irrefl _ (nt (BibIs.lt h _ hb) (nl hk7.size (Nat.le_refl _)))) (fun e => Nat.ne_of_lt (nt (nt (lt_of_get hb10) hz143) hx130) e)) (e ▸ hb))) (Nat.ne_of_lt (nt (nt (hT0.lt) hk7.size) (Nat.le_refl _))))
      have hz145 := (nl (nl hz103 hk97.size) hk101.size)
      exact ⟨.inr (.inr ⟨Decidable.not_not.1 c36, _, _, ⟨_, hpr57, htq58⟩, rfl, nl hz145 hx130, hf144⟩), ka140⟩

theorem add_1 {g : BibG} {st : BibS} {w : World} (ok : BibOk g) (h : BibIs g st w) (t : T6) (ht : -9223372036854775808 ≤ t.port ∧ t.port ≤ 9223372036854775807) (h1 : ∀ q ∈ st.l, 1 ≤ q.1.id) (hle : ∀ q ∈ st.l, q.1.id ≤ st.last) (hla : 0 ≤ st.last ∧ st.last ≤ 4611686018427387904) (hout : ∀ q ∈ st.l, q.1.proto = 6 → aget (st.h 1) q.1.out ≠ none) : Rets Tryd.prog 13 #[(.pointer (some ⟨g.tb, 0, none⟩)), (.int .i64 6), (t6 t)] w fun v w' => ((mayE g st 6 t ≠ 0 ∧ v = .tuple #[bv zeroB, .int .i64 (mayE g st 6 t)] ∧ BibIs g st w') ∨ (mayE g st 6 t = 0 ∧ (∃ a, PairR g st.l t.addr a ∧ TakeQ (g.p 1) (st.h 1) a t.port (decide ((6 : Int) = 1)) none) ∧ v = .tuple #[bv zeroB, .int .i64 13] ∧ BibIs g st w') ∨ (mayE g st 6 t = 0 ∧ ∃ r x, (∃ a, PairR g st.l t.addr a ∧ TakeQ (g.p 1) (st.h 1) a t.port (decide ((6 : Int) = 1)) (some r)) ∧ v = .tuple #[bv ⟨st.last + 1, 6, t, r, false, 0⟩, .int .i64 0] ∧ w.heap.size ≤ x ∧ BibIs g ⟨st.last + 1, st.l ++ [(⟨st.last + 1, 6, t, r, false, 0⟩, x)], setH st.h 1 (st.h 1 ++ [(r, false)])⟩ w')) ∧ Kp (fun k => k = g.tb ∨ k = g.mb ∨ k = g.i1.ib ∨ k = g.i1.sb ∨ k = g.i2.ib ∨ k = g.i2.sb ∨ k = (g.p 1).mb) w w' := by
  refine enter Tryd.func13 rfl Tryd.ntmps13 rfl fun Q hret hend E hE => ?_
  have g1 : E 0 = (Vp g.tb 0) := hE 0
  have g2 : E 1 = (Vi 6) := hE 1
  have g3 : E 2 = (t6 t) := hE 2
  clear hE
  have hb0 := h.blk; have hm0 := h.map; have hT0 := h.tb; have hn1 : g.tb ≠ g.mb := blk_ne_map h.blk h.map
  refine seq fun K4 hK4 => ?_
  refine reg ?_
  refine s_e (e_box (v := (t6 t)) g3) rfl ?_
  rintro _ w5 ⟨rfl, hb6, hk7⟩
  have ka8 : Kp (fun k => k = g.tb ∨ k = g.mb ∨ k = g.i1.ib ∨ k = g.i1.sb ∨ k = g.i2.ib ∨ k = g.i2.sb ∨ k = (g.p 1).mb) w w5 := (Kp.then0 (Kp.refl _ _) hk7)
  refine s_e (e_alloc ze36) rfl ?_
  rintro _ w9 ⟨rfl, hb10, hk11⟩
  have ka12 := (Kp.then0 ka8 hk11)
  refine s_y (y_assign (v := (Vi 0)) rfl) rfl ?_
  refine s_nil (hK4 _ _ (genC [(0, (Vp g.tb 0)), (1, (Vi 6)), (5, (Vp w.heap.size 0)), (6, (Vp w5.heap.size 0))] ⟨g1, g2, rfl, rfl, trivial⟩ ?_))
  clear hK4; rintro E ⟨g13, g14, g15, g16, -⟩
  refine seq fun K17 hK17 => ?_
  refine seq fun K18 hK18 => ?_
  refine reg ?_
  refine s_y (y_move (v := (Vp g.tb 0)) g13) rfl ?_
  refine s_y (y_move (v := (Vi 6)) g14) rfl ?_
  have hb19 := (hk11.get0 hb6)
  refine s_y (y_load (v := (t6 t)) g15 (rd_agg (vs := t.cs) ag32 (On.now hb19) (by kernel_rfl) rfl)) rfl ?_
  have hf20 := (BibIs.k0 (BibIs.k0 h hk7) hk11)
  refine s_e (e_call ca46 (args := [(Vp g.tb 0), (Vi 6), (t6 t)]) rfl (mayb_spec ok hf20 6 t (by omega) (by omega))) rfl ?_
  rintro _ w21 ⟨rfl, hk22⟩
  have ka23 := (Kp.then0 ka12 hk22)
  refine s_y (y_assign (v := (Vi ((mayE g st 6 t)))) rfl) rfl ?_
  refine s_nil (hK18 _ _ (genC [(0, (Vp g.tb 0)), (1, (Vi 6)), (5, (Vp w.heap.size 0)), (6, (Vp w5.heap.size 0)), (8, (Vi ((mayE g st 6 t))))] ⟨g13, g14, g15, g16, rfl, trivial⟩ ?_))
  clear hK18; rintro E ⟨g24, g25, g26, g27, g28, -⟩
  refine seq fun K29 hK29 => ?_
  refine reg ?_
  refine s_y (y_move (v := (Vi ((mayE g st 6 t)))) g28) rfl ?_
  refine s_y (y_neq rfl rfl) rfl ?_
  refine s_nil (hK29 _ _ (genC [(0, (Vp g.tb 0)), (1, (Vi 6)), (5, (Vp w.heap.size 0)), (6, (Vp w5.heap.size 0)), (8, (Vi ((mayE g st 6 t)))), (16, (.bool (decide (((mayE g st 6 t) : Int) ≠ 0))))] ⟨g24, g25, g26, g27, g28, rfl, trivial⟩ ?_))
  clear hK29; rintro E ⟨g30, g31, g32, g33, g34, g35, -⟩
  refine cond_d g35 (fun c36 => ?_) (fun c36 => ?_)
  · refine seq fun K37 hK37 => ?_
    refine reg ?_
    refine s_y (y_build (vs := []) (v := (.agg zBc.toArray)) rfl (fun _ => by kernel_rfl)) rfl ?_
    refine s_y (y_move (v := (Vi ((mayE g st 6 t)))) g34) rfl ?_
    have hb38 := (hk22.get0 hb10)
    refine s_e0 (e_storeV (cs' := zBc.toArray) zBc g33 (v := (.agg zBc.toArray)) rfl rfl sz36 hb38 rfl rfl rfl) ?_
    rintro _ w39 ⟨hb40, hk41⟩
    have ka42 := (Kp.fresh ka23 hk41 fun _ e => nl (nl hk7.size (Nat.le_refl _)) (Nat.le_of_eq e.symm))
    refine s_y (y_assign (v := (Vi ((mayE g st 6 t)))) rfl) rfl ?_
    refine s_nil (hK37 _ _ (genC [(6, (Vp w5.heap.size 0)), (7, (Vi ((mayE g st 6 t))))] ⟨g33, rfl, trivial⟩ ?_))
    clear hK37; rintro E ⟨g43, g44, -⟩
    refine ret (hret _ _ [(bv (⟨0, 0, (⟨(⟨0, 0, 0, 0, 0, 0, 0, 0, 0, 0, 0, 0, 0, 0, 0, 0⟩ : V6), 0⟩ : T6), (⟨(⟨0, 0, 0, 0⟩ : V4), 0⟩ : T4), false, 0⟩ : Binding)), (Vi ((mayE g st 6 t)))] ⟨⟨_, g43, (rd_agg (vs := zBc) ag36 (On.now hb40) (by kernel_rfl) rfl)⟩, g44, trivial⟩ ?_)
    have hf45 := (BibIs.kp (BibIs.k0 hf20 hk22) hk41 (fun b hb => (fun e => (fun hb => Nat.lt_irrefl _ (nt (BibIs.lt h _ hb) (nl hk7.size (Nat.le_refl _)))) (e ▸ hb))) (Nat.ne_of_lt (nt (nt (hT0.lt) hk7.size) (Nat.le_refl _))))
    exact ⟨.inl ⟨c36, rfl, hf45⟩, ka42⟩
  · refine skip (hK17 _ _ (genC [(0, (Vp g.tb 0)), (1, (Vi 6)), (5, (Vp w.heap.size 0)), (6, (Vp w5.heap.size 0))] ⟨g30, g31, g32, g33, trivial⟩ ?_))
    clear hK17; rintro E ⟨g46, g47, g48, g49, -⟩
    refine seq fun K50 hK50 => ?_
    refine reg ?_
    refine s_y (y_move (v := (Vp g.tb 0)) g46) rfl ?_
    refine s_y (y_move (v := (Vi 6)) g47) rfl ?_
    have hb51 := (hk22.get0 hb19)
    refine s_y (y_load (v := (t6 t)) g48 (rd_agg (vs := t.cs) ag32 (On.now hb51) (by kernel_rfl) rfl)) rfl ?_
    have hf52 := (BibIs.k0 hf20 hk22)
    refine s_e (e_call ca47 (args := [(Vp g.tb 0), (Vi 6), (t6 t)]) rfl (take_1 ok hf52 t h1)) rfl ?_
    rintro _ w53 ⟨⟨a55, hpr57, htq58, hB59, rfl⟩ | ⟨a55, r56, hpr57, htq58, hB59, rfl⟩, hk54⟩
    · have ka60 := (Kp.trans ka23 hk54 (fun _ _ e => (fun e => (.inr (.inr (.inr (.inr (.inr (.inr e))))))) e))
      rw [setH_id] at hB59
      refine s_y (y_move (v := (.tuple #[(t4 zeroT4), (Vi 13)])) rfl) rfl ?_
      refine s_y (y_ext rfl (v := (t4 zeroT4)) rfl) rfl ?_
      refine s_y (y_ext rfl (v := (Vi 13)) rfl) rfl ?_
      refine s_e (e_alloc ze34) rfl ?_
      rintro _ w61 ⟨rfl, hb62, hk63⟩
      have ka64 := (Kp.then0 ka60 hk63)
      refine s_e0 (e_storeV (cs' := zeroT4.cs.toArray) zeroT4.cs rfl (v := (t4 zeroT4)) rfl rfl sz34 hb62 rfl rfl rfl) ?_
      rintro _ w65 ⟨hb66, hk67⟩
      have hz69 := (nl (nl (nl hk7.size hk11.size) hk22.size) hk54.size)
      have ka68 := (Kp.fresh ka64 hk67 fun _ e => nl (nl hz69 (Nat.le_refl _)) (Nat.le_of_eq e.symm))
      refine s_y (y_assign (v := (Vi 13)) rfl) rfl ?_
      refine s_nil (hK50 _ _ (genC [(0, (Vp g.tb 0)), (1, (Vi 6)), (5, (Vp w.heap.size 0)), (6, (Vp w5.heap.size 0)), (9, (Vp w53.heap.size 0)), (10, (Vi 13))] ⟨g46, g47, g48, g49, rfl, rfl, trivial⟩ ?_))
      clear hK50; rintro E ⟨g70, g71, g72, g73, g74, g75, -⟩
      refine seq fun K76 hK76 => ?_
      refine seq fun K77 hK77 => ?_
      refine reg ?_
      refine s_y (y_move (v := (Vi 13)) g75) rfl ?_
      refine s_y (y_neq rfl rfl) rfl ?_
      refine s_nil (hK77 _ _ (genC [(0, (Vp g.tb 0)), (1, (Vi 6)), (5, (Vp w.heap.size 0)), (6, (Vp w5.heap.size 0)), (9, (Vp w53.heap.size 0)), (10, (Vi 13)), (27, Vt)] ⟨g70, g71, g72, g73, g74, g75, rfl, trivial⟩ ?_))
      clear hK77; rintro E ⟨g78, g79, g80, g81, g82, g83, g84, -⟩
      refine cond_t g84 ?_
      refine seq fun K85 hK85 => ?_
      refine reg ?_
      refine s_y (y_build (vs := []) (v := (.agg zBc.toArray)) rfl (fun _ => by kernel_rfl)) rfl ?_
      refine s_y (y_move (v := (Vi 13)) g83) rfl ?_
      have hb86 := (hk67.get (hk63.get0 (hk54.get (hk22.get0 hb10) (Nat.ne_of_gt (nt (nt ((BibIs.lt h _ (mem_blocks (List.mem_of_getElem? (i := 11) (rfl : g.blocks[11]? = some (g.p 1).mb))))) hk7.size) (Nat.le_refl _))))) (Nat.ne_of_lt (nt (nt (lt_of_get hb10) (nl hk22.size hk54.size)) (Nat.le_refl _))))
      refine s_e0 (e_storeV (cs' := zBc.toArray) zBc g81 (v := (.agg zBc.toArray)) rfl rfl sz36 hb86 rfl rfl rfl) ?_
      rintro _ w87 ⟨hb88, hk89⟩
      have ka90 := (Kp.fresh ka68 hk89 fun _ e => nl (nl hk7.size (Nat.le_refl _)) (Nat.le_of_eq e.symm))
      refine s_y (y_assign (v := (Vi 13)) rfl) rfl ?_
      refine s_nil (hK85 _ _ (genC [(6, (Vp w5.heap.size 0)), (7, (Vi 13))] ⟨g81, rfl, trivial⟩ ?_))
      clear hK85; rintro E ⟨g91, g92, -⟩
      refine ret (hret _ _ [(bv (⟨0, 0, (⟨(⟨0, 0, 0, 0, 0, 0, 0, 0, 0, 0, 0, 0, 0, 0, 0, 0⟩ : V6), 0⟩ : T6), (⟨(⟨0, 0, 0, 0⟩ : V4), 0⟩ : T4), false, 0⟩ : Binding)), (Vi 13)] ⟨⟨_, g91, (rd_agg (vs := zBc) ag36 (On.now hb88) (by kernel_rfl) rfl)⟩, g92, trivial⟩ ?_)
      have hf93 := (BibIs.kp (BibIs.kp (BibIs.k0 hB59 hk63) hk67 (fun b hb => (fun e => (fun hb => Nat.lt_irrefl _ (nt (BibIs.lt h _ hb) (nl hz69 (Nat.le_refl _)))) (e ▸ hb))) (Nat.ne_of_lt (nt (nt (hT0.lt) hz69) (Nat.le_refl _)))) hk89 (fun b hb => (fun e => (fun hb => Nat.lt_irrefl _ (nt (BibIs.lt h _ hb) (nl hk7.size (Nat.le_refl _)))) (e ▸ hb))) (Nat.ne_of_lt (nt (nt (hT0.lt) hk7.size) (Nat.le_refl _))))
      exact ⟨.inr (.inl ⟨Decidable.not_not.1 c36, ⟨_, hpr57, htq58⟩, rfl, hf93⟩), ka90⟩
    · have ka94 := (Kp.trans ka23 hk54 (fun _ _ e => (fun e => (.inr (.inr (.inr (.inr (.inr (.inr e))))))) e))
      obtain ⟨hm1, hm2, hm3, hm4⟩ := mayE_zero (Decidable.not_not.1 c36)
      obtain ⟨ho1, ho2, ho3⟩ := take_out hm2 htq58; have hlo9 := (ok.pool 1 (by omega)).lo; have hhi9 := (ok.pool 1 (by omega)).hi
      refine s_y (y_move (v := (.tuple #[(t4 r56), (Vi 0)])) rfl) rfl ?_
      refine s_y (y_ext rfl (v := (t4 r56)) rfl) rfl ?_
      refine s_y (y_ext rfl (v := (Vi 0)) rfl) rfl ?_
      refine s_e (e_alloc ze34) rfl ?_
      rintro _ w95 ⟨rfl, hb96, hk97⟩
      have ka98 := (Kp.then0 ka94 hk97)
      refine s_e0 (e_storeV (cs' := r56.cs.toArray) r56.cs rfl (v := (t4 r56)) rfl rfl sz34 hb96 rfl rfl rfl) ?_
      rintro _ w99 ⟨hb100, hk101⟩
      have hz103 := (nl (nl (nl hk7.size hk11.size) hk22.size) hk54.size)
      have ka102 := (Kp.fresh ka98 hk101 fun _ e => nl (nl hz103 (Nat.le_refl _)) (Nat.le_of_eq e.symm))
      refine s_y (y_assign (v := (Vi 0)) rfl) rfl ?_
      refine s_nil (hK50 _ _ (genC [(0, (Vp g.tb 0)), (1, (Vi 6)), (5, (Vp w.heap.size 0)), (6, (Vp w5.heap.size 0)), (9, (Vp w53.heap.size 0)), (10, (Vi 0))] ⟨g46, g47, g48, g49, rfl, rfl, trivial⟩ ?_))
      clear hK50; rintro E ⟨g104, g105, g106, g107, g108, g109, -⟩
      refine seq fun K110 hK110 => ?_
      refine seq fun K111 hK111 => ?_
      refine reg ?_
      refine s_y (y_move (v := (Vi 0)) g109) rfl ?_
      refine s_y (y_neq rfl rfl) rfl ?_
      refine s_nil (hK111 _ _ (genC [(0, (Vp g.tb 0)), (1, (Vi 6)), (5, (Vp w.heap.size 0)), (6, (Vp w5.heap.size 0)), (9, (Vp w53.heap.size 0)), (10, (Vi 0)), (27, Vf)] ⟨g104, g105, g106, g107, g108, g109, rfl, trivial⟩ ?_))
      clear hK111; rintro E ⟨g112, g113, g114, g115, g116, g117, g118, -⟩
      refine cond_f g118 ?_
      refine skip (hK110 _ _ (genC [(0, (Vp g.tb 0)), (1, (Vi 6)), (5, (Vp w.heap.size 0)), (6, (Vp w5.heap.size 0)), (9, (Vp w53.heap.size 0))] ⟨g112, g113, g114, g115, g116, trivial⟩ ?_))
      clear hK110; rintro E ⟨g119, g120, g121, g122, g123, -⟩
      refine seq fun K124 hK124 => ?_
      refine reg ?_
      refine s_y (y_move (v := (Vp g.tb 0)) g119) rfl ?_
      refine s_y (y_move (v := (Vi 6)) g120) rfl ?_
      have hb125 := (hk101.get (hk97.get0 (hk54.get hb51 (Nat.ne_of_gt (nt ((BibIs.lt h _ (mem_blocks (List.mem_of_getElem? (i := 11) (rfl : g.blocks[11]? = some (g.p 1).mb))))) (Nat.le_refl _))))) (Nat.ne_of_lt (nt (nt (lt_of_get hb51) hk54.size) (Nat.le_refl _))))
      refine s_y (y_load (v := (t6 t)) g121 (rd_agg (vs := t.cs) ag32 (On.now hb125) (by kernel_rfl) rfl)) rfl ?_
      refine s_y (y_load (v := (t4 r56)) g123 (rd_agg (vs := r56.cs) ag34 (On.now hb100) (by kernel_rfl) rfl)) rfl ?_
      refine s_y (y_build (vs := [(1, (Vi 6)), (2, (t6 t)), (3, (t4 r56))]) (v := (.agg #[.int .i64 0, .int .i64 6, u8 t.addr.b0, u8 t.addr.b1, u8 t.addr.b2, u8 t.addr.b3, u8 t.addr.b4, u8 t.addr.b5, u8 t.addr.b6, u8 t.addr.b7, u8 t.addr.b8, u8 t.addr.b9, u8 t.addr.b10, u8 t.addr.b11, u8 t.addr.b12, u8 t.addr.b13, u8 t.addr.b14, u8 t.addr.b15, .int .i64 (t.port), u8 r56.addr.a, u8 r56.addr.b, u8 r56.addr.c, u8 r56.addr.d, .int .i64 (r56.port), .bool false, .int .i64 0])) rfl (fun _ => by kernel_rfl)) rfl ?_
      have hf126 := (BibIs.kp (BibIs.k0 hB59 hk97) hk101 (fun b hb => (fun e => (fun hb => Nat.lt_irrefl _ (nt (BibIs.lt h _ hb) (nl hz103 (Nat.le_refl _)))) (e ▸ hb))) (Nat.ne_of_lt (nt (nt (hT0.lt) hz103) (Nat.le_refl _))))
      refine s_e (e_call ca48 (args := [(Vp g.tb 0), (.agg #[.int .i64 0, .int .i64 6, u8 t.addr.b0, u8 t.addr.b1, u8 t.addr.b2, u8 t.addr.b3, u8 t.addr.b4, u8 t.addr.b5, u8 t.addr.b6, u8 t.addr.b7, u8 t.addr.b8, u8 t.addr.b9, u8 t.addr.b10, u8 t.addr.b11, u8 t.addr.b12, u8 t.addr.b13, u8 t.addr.b14, u8 t.addr.b15, .int .i64 (t.port), u8 r56.addr.a, u8 r56.addr.b, u8 r56.addr.c, u8 r56.addr.d, .int .i64 (r56.port), .bool false, .int .i64 0])]) rfl (putb_spec ok hf126 (⟨0, 6, t, r56, false, 0⟩ : Binding) (show -9223372036854775808 ≤ (6 : Int) ∧ (6 : Int) ≤ 9223372036854775807 from ⟨by decide, by decide⟩) ht (show _ ∧ _ from ⟨by show _ ≤ r56.port; omega, by show r56.port ≤ _; omega⟩) hle hla hm4 hm3 (out_none hout ho3))) rfl ?_
      rintro _ w127 ⟨⟨x129, rfl, hx130, hP131⟩, hk128⟩
      have ka132 := (Kp.trans ka102 hk128 (fun _ _ e => (fun e => e.elim (fun e => (.inl e)) (fun e => e.elim (fun e => (.inr (.inl e))) (fun e => e.elim (fun e => (.inr (.inr (.inl e)))) (fun e => e.elim (fun e => (.inr (.inr (.inr (.inl e))))) (fun e => e.elim (fun e => (.inr (.inr (.inr (.inr (.inl e)))))) (fun e => (.inr (.inr (.inr (.inr (.inr (.inl e)))))))))))) e))
      have hb133 := BibIs.blk hP131; have hm134 := BibIs.map hP131; have hT135 := BibIs.tb hP131
      have hb136 := (hk128.get (hk101.get (hk97.get0 (hk54.get (hk22.get0 hb10) (Nat.ne_of_gt (nt (nt ((BibIs.lt h _ (mem_blocks (List.mem_of_getElem? (i := 11) (rfl : g.blocks[11]? = some (g.p 1).mb))))) hk7.size) (Nat.le_refl _))))) (Nat.ne_of_lt (nt (nt (lt_of_get hb10) (nl hk22.size hk54.size)) (Nat.le_refl _)))) (not_or.2 ⟨(Nat.ne_of_gt (nt (nt (lt_of_get hb0) hk7.size) (Nat.le_refl _))), (not_or.2 ⟨(Nat.ne_of_gt (nt (nt (hm0.lt) hk7.size) (Nat.le_refl _))), (not_or.2 ⟨(Nat.ne_of_gt (nt (nt ((BibIs.lt h _ (mem_blocks (List.mem_of_getElem? (i := 2) (rfl : g.blocks[2]? = some g.i1.ib))))) hk7.size) (Nat.le_refl _))), (not_or.2 ⟨(Nat.ne_of_gt (nt (nt ((BibIs.lt h _ (mem_blocks (List.mem_of_getElem? (i := 3) (rfl : g.blocks[3]? = some g.i1.sb))))) hk7.size) (Nat.le_refl _))), (not_or.2 ⟨(Nat.ne_of_gt (nt (nt ((BibIs.lt h _ (mem_blocks (List.mem_of_getElem? (i := 4) (rfl : g.blocks[4]? = some g.i2.ib))))) hk7.size) (Nat.le_refl _))), (Nat.ne_of_gt (nt (nt ((BibIs.lt h _ (mem_blocks (List.mem_of_getElem? (i := 5) (rfl : g.blocks[5]? = some g.i2.sb))))) hk7.size) (Nat.le_refl _)))⟩)⟩)⟩)⟩)⟩))
      refine s_e0 (e_storeV (cs' := #[(Vi ((⟨st.last + 1, 6, t, r56, false, 0⟩ : Binding).id)), (Vi ((⟨st.last + 1, 6, t, r56, false, 0⟩ : Binding).proto)), (u8 (((⟨st.last + 1, 6, t, r56, false, 0⟩ : Binding).inn).addr).b0), (u8 (((⟨st.last + 1, 6, t, r56, false, 0⟩ : Binding).inn).addr).b1), (u8 (((⟨st.last + 1, 6, t, r56, false, 0⟩ : Binding).inn).addr).b2), (u8 (((⟨st.last + 1, 6, t, r56, false, 0⟩ : Binding).inn).addr).b3), (u8 (((⟨st.last + 1, 6, t, r56, false, 0⟩ : Binding).inn).addr).b4), (u8 (((⟨st.last + 1, 6, t, r56, false, 0⟩ : Binding).inn).addr).b5), (u8 (((⟨st.last + 1, 6, t, r56, false, 0⟩ : Binding).inn).addr).b6), (u8 (((⟨st.last + 1, 6, t, r56, false, 0⟩ : Binding).inn).addr).b7), (u8 (((⟨st.last + 1, 6, t, r56, false, 0⟩ : Binding).inn).addr).b8), (u8 (((⟨st.last + 1, 6, t, r56, false, 0⟩ : Binding).inn).addr).b9), (u8 (((⟨st.last + 1, 6, t, r56, false, 0⟩ : Binding).inn).addr).b10), (u8 (((⟨st.last + 1, 6, t, r56, false, 0⟩ : Binding).inn).addr).b11), (u8 (((⟨st.last + 1, 6, t, r56, false, 0⟩ : Binding).inn).addr).b12), (u8 (((⟨st.last + 1, 6, t, r56, false, 0⟩ : Binding).inn).addr).b13), (u8 (((⟨st.last + 1, 6, t, r56, false, 0⟩ : Binding).inn).addr).b14), (u8 (((⟨st.last + 1, 6, t, r56, false, 0⟩ : Binding).inn).addr).b15), (Vi (((⟨st.last + 1, 6, t, r56, false, 0⟩ : Binding).inn).port)), (u8 (((⟨st.last + 1, 6, t, r56, false, 0⟩ : Binding).out).addr).a), (u8 (((⟨st.last + 1, 6, t, r56, false, 0⟩ : Binding).out).addr).b), (u8 (((⟨st.last + 1, 6, t, r56, false, 0⟩ : Binding).out).addr).c), (u8 (((⟨st.last + 1, 6, t, r56, false, 0⟩ : Binding).out).addr).d), (Vi (((⟨st.last + 1, 6, t, r56, false, 0⟩ : Binding).out).port)), (.bool ((⟨st.last + 1, 6, t, r56, false, 0⟩ : Binding).static)), (Vi ((⟨st.last + 1, 6, t, r56, false, 0⟩ : Binding).sessions))]) [(Vi ((⟨st.last + 1, 6, t, r56, false, 0⟩ : Binding).id)), (Vi ((⟨st.last + 1, 6, t, r56, false, 0⟩ : Binding).proto)), (u8 (((⟨st.last + 1, 6, t, r56, false, 0⟩ : Binding).inn).addr).b0), (u8 (((⟨st.last + 1, 6, t, r56, false, 0⟩ : Binding).inn).addr).b1), (u8 (((⟨st.last + 1, 6, t, r56, false, 0⟩ : Binding).inn).addr).b2), (u8 (((⟨st.last + 1, 6, t, r56, false, 0⟩ : Binding).inn).addr).b3), (u8 (((⟨st.last + 1, 6, t, r56, false, 0⟩ : Binding).inn).addr).b4), (u8 (((⟨st.last + 1, 6, t, r56, false, 0⟩ : Binding).inn).addr).b5), (u8 (((⟨st.last + 1, 6, t, r56, false, 0⟩ : Binding).inn).addr).b6), (u8 (((⟨st.last + 1, 6, t, r56, false, 0⟩ : Binding).inn).addr).b7), (u8 (((⟨st.last + 1, 6, t, r56, false, 0⟩ : Binding).inn).addr).b8), (u8 (((⟨st.last + 1, 6, t, r56, false, 0⟩ : Binding).inn).addr).b9), (u8 (((⟨st.last + 1, 6, t, r56, false, 0⟩ : Binding).inn).addr).b10), (u8 (((⟨st.last + 1, 6, t, r56, false, 0⟩ : Binding).inn).addr).b11), (u8 (((⟨st.last + 1, 6, t, r56, false, 0⟩ : Binding).inn).addr).b12), (u8 (((⟨st.last + 1, 6, t, r56, false, 0⟩ : Binding).inn).addr).b13), (u8 (((⟨st.last + 1, 6, t, r56, false, 0⟩ : Binding).inn).addr).b14), (u8 (((⟨st.last + 1, 6, t, r56, false, 0⟩ : Binding).inn).addr).b15), (Vi (((⟨st.last + 1, 6, t, r56, false, 0⟩ : Binding).inn).port)), (u8 (((⟨st.last + 1, 6, t, r56, false, 0⟩ : Binding).out).addr).a), (u8 (((⟨st.last + 1, 6, t, r56, false, 0⟩ : Binding).out).addr).b), (u8 (((⟨st.last + 1, 6, t, r56, false, 0⟩ : Binding).out).addr).c), (u8 (((⟨st.last + 1, 6, t, r56, false, 0⟩ : Binding).out).addr).d), (Vi (((⟨st.last + 1, 6, t, r56, false, 0⟩ : Binding).out).port)), (.bool ((⟨st.last + 1, 6, t, r56, false, 0⟩ : Binding).static)), (Vi ((⟨st.last + 1, 6, t, r56, false, 0⟩ : Binding).sessions))] g122 (v := (bv (⟨st.last + 1, 6, t, r56, false, 0⟩ : Binding))) rfl rfl sz36 hb136 rfl rfl rfl) ?_
      rintro _ w137 ⟨hb138, hk139⟩
      have ka140 := (Kp.fresh ka132 hk139 fun _ e => nl (nl hk7.size (Nat.le_refl _)) (Nat.le_of_eq e.symm))
      refine s_y (y_assign (v := (Vi 0)) rfl) rfl ?_
      refine s_nil (hK124 _ _ (genC [(6, (Vp w5.heap.size 0)), (7, (Vi 0))] ⟨g122, rfl, trivial⟩ ?_))
      clear hK124; rintro E ⟨g141, g142, -⟩
      refine ret (hret _ _ [(bv (⟨(⟨st.last + 1, 6, t, r56, false, 0⟩ : Binding).id, (⟨st.last + 1, 6, t, r56, false, 0⟩ : Binding).proto, (⟨(((⟨st.last + 1, 6, t, r56, false, 0⟩ : Binding).inn).addr), ((⟨st.last + 1, 6, t, r56, false, 0⟩ : Binding).inn).port⟩ : T6), (⟨(((⟨st.last + 1, 6, t, r56, false, 0⟩ : Binding).out).addr), ((⟨st.last + 1, 6, t, r56, false, 0⟩ : Binding).out).port⟩ : T4), (⟨st.last + 1, 6, t, r56, false, 0⟩ : Binding).static, (⟨st.last + 1, 6, t, r56, false, 0⟩ : Binding).sessions⟩ : Binding)), (Vi 0)] ⟨⟨_, g141, (rd_agg (vs := [(Vi ((⟨st.last + 1, 6, t, r56, false, 0⟩ : Binding).id)), (Vi ((⟨st.last + 1, 6, t, r56, false, 0⟩ : Binding).proto)), (u8 (((⟨st.last + 1, 6, t, r56, false, 0⟩ : Binding).inn).addr).b0), (u8 (((⟨st.last + 1, 6, t, r56, false, 0⟩ : Binding).inn).addr).b1), (u8 (((⟨st.last + 1, 6, t, r56, false, 0⟩ : Binding).inn).addr).b2), (u8 (((⟨st.last + 1, 6, t, r56, false, 0⟩ : Binding).inn).addr).b3), (u8 (((⟨st.last + 1, 6, t, r56, false, 0⟩ : Binding).inn).addr).b4), (u8 (((⟨st.last + 1, 6, t, r56, false, 0⟩ : Binding).inn).addr).b5), (u8 (((⟨st.last + 1, 6, t, r56, false, 0⟩ : Binding).inn).addr).b6), (u8 (((⟨st.last + 1, 6, t, r56, false, 0⟩ : Binding).inn).addr).b7), (u8 (((⟨st.last + 1, 6, t, r56, false, 0⟩ : Binding).inn).addr).b8), (u8 (((⟨st.last + 1, 6, t, r56, false, 0⟩ : Binding).inn).addr).b9), (u8 (((⟨st.last + 1, 6, t, r56, false, 0⟩ : Binding).inn).addr).b10), (u8 (((⟨st.last + 1, 6, t, r56, false, 0⟩ : Binding).inn).addr).b11), (u8 (((⟨st.last + 1, 6, t, r56, false, 0⟩ : Binding).inn).addr).b12), (u8 (((⟨st.last + 1, 6, t, r56, false, 0⟩ : Binding).inn).addr).b13), (u8 (((⟨st.last + 1, 6, t, r56, false, 0⟩ : Binding).inn).addr).b14), (u8 (((⟨st.last + 1, 6, t, r56, false, 0⟩ : Binding).inn).addr).b15), (Vi (((⟨st.last + 1, 6, t, r56, false, 0⟩ : Binding).inn).port)), (u8 (((⟨st.last + 1, 6, t, r56, false, 0⟩ : Binding).out).addr).a), (u8 (((⟨st.last + 1, 6, t, r56, false, 0⟩ : Binding).out).addr).b), (u8 (((⟨st.last + 1, 6, t, r56, false, 0⟩ : Binding).out).addr).c), (u8 (((⟨st.last + 1, 6, t, r56, false, 0⟩ : Binding).out).addr).d), (Vi (((⟨st.last + 1, 6, t, r56, false, 0⟩ : Binding).out).port)), (.bool ((⟨st.last + 1, 6, t, r56, false, 0⟩ : Binding).static)), (Vi ((⟨st.last + 1, 6, t, r56, false, 0⟩ : Binding).sessions))]) ag36 (On.now hb138) (by kernel_rfl) rfl)⟩, g142, trivial⟩ ?_)
      have hz143 := (nl (nl (nl hk22.size hk54.size) hk97.size) hk101.size)
      have hf144 := (BibIs.kp hP131 hk139 (fun b hb => (fun e => (fun hb => (bfp_add hb).elim (fun hb => Nat.lt_irrefl _ (nt (BibIs.lt h _ hb) (nl hk7.size (Nat.le_refl _)))) (fun e => Nat.ne_of_lt (nt (nt (lt_of_get hb10) hz143) hx130) e)) (e ▸ hb))) (Nat.ne_of_lt (nt (nt (hT0.lt) hk7.size) (Nat.le_refl _))))
      have hz145 := (nl (nl hz103 hk97.size) hk101.size)
      exact ⟨.inr (.inr ⟨Decidable.not_not.1 c36, _, _, ⟨_, hpr57, htq58⟩, rfl, nl hz145 hx130, hf144⟩), ka140⟩

theorem add_2 {g : BibG} {st : BibS} {w : World} (ok : BibOk g) (h : BibIs g st w) (t : T6) (ht : -9223372036854775808 ≤ t.port ∧ t.port ≤ 9223372036854775807) (h1 : ∀ q ∈ st.l, 1 ≤ q.1.id) (hle : ∀ q ∈ st.l, q.1.id ≤ st.last) (hla : 0 ≤ st.last ∧ st.last ≤ 4611686018427387904) (hout : ∀ q ∈ st.l, q.1.proto = 17 → aget (st.h 2) q.1.out ≠ none) : Rets Tryd.prog 13 #[(.pointer (some ⟨g.tb, 0, none⟩)), (.int .i64 17), (t6 t)] w fun v w' => ((mayE g st 17 t ≠ 0 ∧ v = .tuple #[bv zeroB, .int .i64 (mayE g st 17 t)] ∧ BibIs g st w') ∨ (mayE g st 17 t = 0 ∧ (∃ a, PairR g st.l t.addr a ∧ TakeQ (g.p 2) (st.h 2) a t.port (decide ((17 : Int) = 1)) none) ∧ v = .tuple #[bv zeroB, .int .i64 13] ∧ BibIs g st w') ∨ (mayE g st 17 t = 0 ∧ ∃ r x, (∃ a, PairR g st.l t.addr a ∧ TakeQ (g.p 2) (st.h 2) a t.port (decide ((17 : Int) = 1)) (some r)) ∧ v = .tuple #[bv ⟨st.last + 1, 17, t, r, false, 0⟩, .int .i64 0] ∧ w.heap.size ≤ x ∧ BibIs g ⟨st.last + 1, st.l ++ [(⟨st.last + 1, 17, t, r, false, 0⟩, x)], setH st.h 2 (st.h 2 ++ [(r, false)])⟩ w')) ∧ Kp (fun k => k = g.tb ∨ k = g.mb ∨ k = g.i1.ib ∨ k = g.i1.sb ∨ k = g.i2.ib ∨ k = g.i2.sb ∨ k = (g.p 2).mb) w w' := by
  refine enter Tryd.func13 rfl Tryd.ntmps13 rfl fun Q hret hend E hE => ?_
  have g1 : E 0 = (Vp g.tb 0) := hE 0
  have g2 : E 1 = (Vi 17) := hE 1
  have g3 : E 2 = (t6 t) := hE 2
  clear hE
  have hb0 := h.blk; have hm0 := h.map; have hT0 := h.tb; have hn1 : g.tb ≠ g.mb := blk_ne_map h.blk h.map
  refine seq fun K4 hK4 => ?_
  refine reg ?_
  refine s_e (e_box (v := (t6 t)) g3) rfl ?_
  rintro _ w5 ⟨rfl, hb6, hk7⟩
  have ka8 : Kp (fun k => k = g.tb ∨ k = g.mb ∨ k = g.i1.ib ∨ k = g.i1.sb ∨ k = g.i2.ib ∨ k = g.i2.sb ∨ k = (g.p 2).mb) w w5 := (Kp.then0 (Kp.refl _ _) hk7)
  refine s_e (e_alloc ze36) rfl ?_
  rintro _ w9 ⟨rfl, hb10, hk11⟩
  have ka12 := (Kp.then0 ka8 hk11)
  refine s_y (y_assign (v := (Vi 0)) rfl) rfl ?_
  refine s_nil (hK4 _ _ (genC [(0, (Vp g.tb 0)), (1, (Vi 17)), (5, (Vp w.heap.size 0)), (6, (Vp w5.heap.size 0))] ⟨g1, g2, rfl, rfl, trivial⟩ ?_))
  clear hK4; rintro E ⟨g13, g14, g15, g16, -⟩
  refine seq fun K17 hK17 => ?_
  refine seq fun K18 hK18 => ?_
  refine reg ?_
  refine s_y (y_move (v := (Vp g.tb 0)) g13) rfl ?_
  refine s_y (y_move (v := (Vi 17)) g14) rfl ?_
  have hb19 := (hk11.get0 hb6)
  refine s_y (y_load (v := (t6 t)) g15 (rd_agg (vs := t.cs) ag32 (On.now hb19) (by kernel_rfl) rfl)) rfl ?_
  have hf20 := (BibIs.k0 (BibIs.k0 h hk7) hk11)
  refine s_e (e_call ca46 (args := [(Vp g.tb 0), (Vi 17), (t6 t)]) rfl (mayb_spec ok hf20 17 t (by omega) (by omega))) rfl ?_
  rintro _ w21 ⟨rfl, hk22⟩
  have ka23 := (Kp.then0 ka12 hk22)
  refine s_y (y_assign (v := (Vi ((mayE g st 17 t)))) rfl) rfl ?_
  refine s_nil (hK18 _ _ (genC [(0, (Vp g.tb 0)), (1, (Vi 17)), (5, (Vp w.heap.size 0)), (6, (Vp w5.heap.size 0)), (8, (Vi ((mayE g st 17 t))))] ⟨g13, g14, g15, g16, rfl, trivial⟩ ?_))
  clear hK18; rintro E ⟨g24, g25, g26, g27, g28, -⟩
  refine seq fun K29 hK29 => ?_
  refine reg ?_
  refine s_y (y_move (v := (Vi ((mayE g st 17 t)))) g28) rfl ?_
  refine s_y (y_neq rfl rfl) rfl ?_
  refine s_nil (hK29 _ _ (genC [(0, (Vp g.tb 0)), (1, (Vi 17)), (5, (Vp w.heap.size 0)), (6, (Vp w5.heap.size 0)), (8, (Vi ((mayE g st 17 t)))), (16, (.bool (decide (((mayE g st 17 t) : Int) ≠ 0))))] ⟨g24, g25, g26, g27, g28, rfl, trivial⟩ ?_))
  clear hK29; rintro E ⟨g30, g31, g32, g33, g34, g35, -⟩
  refine cond_d g35 (fun c36 => ?_) (fun c36 => ?_)
  · refine seq fun K37 hK37 => ?_
    refine reg ?_
    refine s_y (y_build (vs := []) (v := (.agg zBc.toArray)) rfl (fun _ => by kernel_rfl)) rfl ?_
    refine s_y (y_move (v := (Vi ((mayE g st 17 t)))) g34) rfl ?_
    have hb38 := (hk22.get0 hb10)
    refine s_e0 (e_storeV (cs' := zBc.toArray) zBc g33 (v := (.agg zBc.toArray)) rfl rfl sz36 hb38 rfl rfl rfl) ?_
    rintro _ w39 ⟨hb40, hk41⟩
    have ka42 := (Kp.fresh ka23 hk41 fun _ e => nl (nl hk7.size (Nat.le_refl _)) (Nat.le_of_eq e.symm))
    refine s_y (y_assign (v := (Vi ((mayE g st 17 t)))) rfl) rfl ?_
    refine s_nil (hK37 _ _ (genC [(6, (Vp w5.heap.size 0)), (7, (Vi ((mayE g st 17 t))))] ⟨g33, rfl, trivial⟩ ?_))
    clear hK37; rintro E ⟨g43, g44, -⟩
    refine ret (hret _ _ [(bv (⟨0, 0, (⟨(⟨0, 0, 0, 0, 0, 0, 0, 0, 0, 0, 0, 0, 0, 0, 0, 0⟩ : V6), 0⟩ : T6), (⟨(⟨0, 0, 0, 0⟩ : V4), 0⟩ : T4), false, 0⟩ : Binding)), (Vi ((mayE g st 17 t)))] ⟨⟨_, g43, (rd_agg (vs := zBc) ag36 (On.now hb40) (by kernel_rfl) rfl)⟩, g44, trivial⟩ ?_)
    have hf45 := (BibIs.kp (BibIs.k0 hf20 hk22) hk41 (fun b hb => (fun e => (fun hb => Nat.lt_irrefl _ (nt (BibIs.lt h _ hb) (nl hk7.size (Nat.le_refl _)))) (e ▸ hb))) (Nat.ne_of_lt (nt (nt (hT0.lt) hk7.size) (Nat.le_refl _))))
    exact ⟨.inl ⟨c36, rfl, hf45⟩, ka42⟩
  · refine skip (hK17 _ _ (genC [(0, (Vp g.tb 0)), (1, (Vi 17)), (5, (Vp w.heap.size 0)), (6, (Vp w5.heap.size 0))] ⟨g30, g31, g32, g33, trivial⟩ ?_))
    clear hK17; rintro E ⟨g46, g47, g48, g49, -⟩
    refine seq fun K50 hK50 => ?_
    refine reg ?_
    refine s_y (y_move (v := (Vp g.tb 0)) g46) rfl ?_
    refine s_y (y_move (v := (Vi 17)) g47) rfl ?_
    have hb51 := (hk22.get0 hb19)
    refine s_y (y_load (v := (t6 t)) g48 (rd_agg (vs := t.cs) ag32 (On.now hb51) (by kernel_rfl) rfl)) rfl ?_
    have hf52 := (BibIs.k0 hf20 hk22)
    refine s_e (e_call ca47 (args := [(Vp g.tb 0), (Vi 17), (t6 t)]) rfl (take_2 ok hf52 t h1)) rfl ?_
    rintro _ w53 ⟨⟨a55, hpr57, htq58, hB59, rfl⟩ | ⟨a55, r56, hpr57, htq58, hB59, rfl⟩, hk54⟩
    · have ka60 := (Kp.trans ka23 hk54 (fun _ _ e => (fun e => (.inr (.inr (.inr (.inr (.inr (.inr e))))))) e))
      rw [setH_id] at hB59
      refine s_y (y_move (v := (.tuple #[(t4 zeroT4), (Vi 13)])) rfl) rfl ?_
      refine s_y (y_ext rfl (v := (t4 zeroT4)) rfl) rfl ?_
      refine s_y (y_ext rfl (v := (Vi 13)) rfl) rfl ?_
      refine s_e (e_alloc ze34) rfl ?_
      rintro _ w61 ⟨rfl, hb62, hk63⟩
      have ka64 := (Kp.then0 ka60 hk63)
      refine s_e0 (e_storeV (cs' := zeroT4.cs.toArray) zeroT4.cs rfl (v := (t4 zeroT4)) rfl rfl sz34 hb62 rfl rfl rfl) ?_
      rintro _ w65 ⟨hb66, hk67⟩
      have hz69 := (nl (nl (nl hk7.size hk11.size) hk22.size) hk54.size)
      have ka68 := (Kp.fresh ka64 hk67 fun _ e => nl (nl hz69 (Nat.le_refl _)) (Nat.le_of_eq e.symm))
      refine s_y (y_assign (v := (Vi 13)) rfl) rfl ?_
      refine s_nil (hK50 _ _ (genC [(0, (Vp g.tb 0)), (1, (Vi 17)), (5, (Vp w.heap.size 0)), (6, (Vp w5.heap.size 0)), (9, (Vp w53.heap.size 0)), (10, (Vi 13))] ⟨g46, g47, g48, g49, rfl, rfl, trivial⟩ ?_))
      clear hK50; rintro E ⟨g70, g71, g72, g73, g74, g75, -⟩
      refine seq fun K76 hK76 => ?_
      refine seq fun K77 hK77 => ?_
      refine reg ?_
      refine s_y (y_move (v := (Vi 13)) g75) rfl ?_
      refine s_y (y_neq rfl rfl) rfl ?_
      refine s_nil (hK77 _ _ (genC [(0, (Vp g.tb 0)), (1, (Vi 17)), (5, (Vp w.heap.size 0)), (6, (Vp w5.heap.size 0)), (9, (Vp w53.heap.size 0)), (10, (Vi 13)), (27, Vt)] ⟨g70, g71, g72, g73, g74, g75, rfl, trivial⟩ ?_))
      clear hK77; rintro E ⟨g78, g79, g80, g81, g82, g83, g84, -⟩
      refine cond_t g84 ?_
      refine seq fun K85 hK85 => ?_
      refine reg ?_
      refine s_y (y_build (vs := []) (v := (.agg zBc.toArray)) rfl (fun _ => by kernel_rfl)) rfl ?_
      refine s_y (y_move (v := (Vi 13)) g83) rfl ?_
      have hb86 := (hk67.get (hk63.get0 (hk54.get (hk22.get0 hb10) (Nat.ne_of_gt (nt (nt ((BibIs.lt h _ (mem_blocks (List.mem_of_getElem? (i := 14) (rfl : g.blocks[14]? = some (g.p 2).mb))))) hk7.size) (Nat.le_refl _))))) (Nat.ne_of_lt (nt (nt (lt_of_get hb10) (nl hk22.size hk54.size)) (Nat.le_refl _))))
      refine s_e0 (e_storeV (cs' := zBc.toArray) zBc g81 (v := (.agg zBc.toArray)) rfl rfl sz36 hb86 rfl rfl rfl) ?_
      rintro _ w87 ⟨hb88, hk89⟩
      have ka90 := (Kp.fresh ka68 hk89 fun _ e => nl (nl hk7.size (Nat.le_refl _)) (Nat.le_of_eq e.symm))
      refine s_y (y_assign (v := (Vi 13)) rfl) rfl ?_
      refine s_nil (hK85 _ _ (genC [(6, (Vp w5.heap.size 0)), (7, (Vi 13))] ⟨g81, rfl, trivial⟩ ?_))
      clear hK85; rintro E ⟨g91, g92, -⟩
      refine ret (hret _ _ [(bv (⟨0, 0, (⟨(⟨0, 0, 0, 0, 0, 0, 0, 0, 0, 0, 0, 0, 0, 0, 0, 0⟩ : V6), 0⟩ : T6), (⟨(⟨0, 0, 0, 0⟩ : V4), 0⟩ : T4), false, 0⟩ : Binding)), (Vi 13)] ⟨⟨_, g91, (rd_agg (vs := zBc) ag36 (On.now hb88) (by kernel_rfl) rfl)⟩, g92, trivial⟩ ?_)
      have hf93 := (BibIs.kp (BibIs.kp (BibIs.k0 hB59 hk63) hk67 (fun b hb => (fun e => (fun hb => Nat.lt_irrefl _ (nt (BibIs.lt h _ hb) (nl hz69 (Nat.le_refl _)))) (e ▸ hb))) (Nat.ne_of_lt (nt (nt (hT0.lt) hz69) (Nat.le_refl _)))) hk89 (fun b hb => (fun e => (fun hb => Nat.lt_irrefl _ (nt (BibIs.lt h _ hb) (nl hk7.size (Nat.le_refl _)))) (e ▸ hb))) (Nat.ne_of_lt (nt (nt (hT0.lt) hk7.size) (Nat.le_refl _))))
      exact ⟨.inr (.inl ⟨Decidable.not_not.1 c36, ⟨_, hpr57, htq58⟩, rfl, hf93⟩), ka90⟩
    · have ka94 := (Kp.trans ka23 hk54 (fun _ _ e => (fun e => (.inr (.inr (.inr (.inr (.inr (.inr e))))))) e))
      obtain ⟨hm1, hm2, hm3, hm4⟩ := mayE_zero (Decidable.not_not.1 c36)
      obtain ⟨ho1, ho2, ho3⟩ := take_out hm2 htq58; have hlo9 := (ok.pool 2 (by omega)).lo; have hhi9 := (ok.pool 2 (by omega)).hi
      refine s_y (y_move (v := (.tuple #[(t4 r56), (Vi 0)])) rfl) rfl ?_
      refine s_y (y_ext rfl (v := (t4 r56)) rfl) rfl ?_
      refine s_y (y_ext rfl (v := (Vi 0)) rfl) rfl ?_
      refine s_e (e_alloc ze34) rfl ?_
      rintro _ w95 ⟨rfl, hb96, hk97⟩
      have ka98 := (Kp.then0 ka94 hk97)
      refine s_e0 (e_storeV (cs' := r56.cs.toArray) r56.cs rfl (v := (t4 r56)) rfl rfl sz34 hb96 rfl rfl rfl) ?_
      rintro _ w99 ⟨hb100, hk101⟩
      have hz103 := (nl (nl (nl hk7.size hk11.size) hk22.size) hk54.size)
      have ka102 := (Kp.fresh ka98 hk101 fun _ e => nl (nl hz103 (Nat.le_refl _)) (Nat.le_of_eq e.symm))
      refine s_y (y_assign (v := (Vi 0)) rfl) rfl ?_
      refine s_nil (hK50 _ _ (genC [(0, (Vp g.tb 0)), (1, (Vi 17)), (5, (Vp w.heap.size 0)), (6, (Vp w5.heap.size 0)), (9, (Vp w53.heap.size 0)), (10, (Vi 0))] ⟨g46, g47, g48, g49, rfl, rfl, trivial⟩ ?_))
      clear hK50; rintro E ⟨g104, g105, g106, g107, g108, g109, -⟩
      refine seq fun K110 hK110 => ?_
      refine seq fun K111 hK111 => ?_
      refine reg ?_
      refine s_y (y_move (v := (Vi 0)) g109) rfl ?_
      refine s_y (y_neq rfl rfl) rfl ?_
      refine s_nil (hK111 _ _ (genC [(0, (Vp g.tb 0)), (1, (Vi 17)), (5, (Vp w.heap.size 0)), (6, (Vp w5.heap.size 0)), (9, (Vp w53.heap.size 0)), (10, (Vi 0)), (27, Vf)] ⟨g104, g105, g106, g107, g108, g109, rfl, trivial⟩ ?_))
      clear hK111; rintro E ⟨g112, g113, g114, g115, g116, g117, g118, -⟩
      refine cond_f g118 ?_
      refine skip (hK110 _ _ (genC [(0, (Vp g.tb 0)), (1, (Vi 17)), (5, (Vp w.heap.size 0)), (6, (Vp w5.heap.size 0)), (9, (Vp w53.heap.size 0))] ⟨g112, g113, g114, g115, g116, trivial⟩ ?_))
      clear hK110; rintro E ⟨g119, g120, g121, g122, g123, -⟩
      refine seq fun K124 hK124 => ?_
      refine reg ?_
      refine s_y (y_move (v := (Vp g.tb 0)) g119) rfl ?_
      refine s_y (y_move (v := (Vi 17)) g120) rfl ?_
      have hb125 := (hk101.get (hk97.get0 (hk54.get hb51 (Nat.ne_of_gt (nt ((BibIs.lt h _ (mem_blocks (List.mem_of_getElem? (i := 14) (rfl : g.blocks[14]? = some (g.p 2).mb))))) (Nat.le_refl _))))) (Nat.ne_of_lt (nt (nt (lt_of_get hb51) hk54.size) (Nat.le_refl _))))
      refine s_y (y_load (v := (t6 t)) g121 (rd_agg (vs := t.cs) ag32 (On.now hb125) (by kernel_rfl) rfl)) rfl ?_
      refine s_y (y_load (v := (t4 r56)) g123 (rd_agg (vs := r56.cs) ag34 (On.now hb100) (by kernel_rfl) rfl)) rfl ?_
      refine s_y (y_build (vs := [(1, (Vi 17)), (2, (t6 t)), (3, (t4 r56))]) (v := (.agg #[.int .i64 0, .int .i64 17, u8 t.addr.b0, u8 t.addr.b1, u8 t.addr.b2, u8 t.addr.b3, u8 t.addr.b4, u8 t.addr.b5, u8 t.addr.b6, u8 t.addr.b7, u8 t.addr.b8, u8 t.addr.b9, u8 t.addr.b10, u8 t.addr.b11, u8 t.addr.b12, u8 t.addr.b13, u8 t.addr.b14, u8 t.addr.b15, .int .i64 (t.port), u8 r56.addr.a, u8 r56.addr.b, u8 r56.addr.c, u8 r56.addr.d, .int .i64 (r56.port), .bool false, .int .i64 0])) rfl (fun _ => by kernel_rfl)) rfl ?_
      have hf126 := (BibIs.kp (BibIs.k0 hB59 hk97) hk101 (fun b hb => (fun e => (fun hb => Nat.lt_irrefl _ (nt (BibIs.lt h _ hb) (nl hz103 (Nat.le_refl _)))) (e ▸ hb))) (Nat.ne_of_lt (nt (nt (hT0.lt) hz103) (Nat.le_refl _))))
      refine s_e (e_call ca48 (args := [(Vp g.tb 0), (.agg #[.int .i64 0, .int .i64 17, u8 t.addr.b0, u8 t.addr.b1, u8 t.addr.b2, u8 t.addr.b3, u8 t.addr.b4, u8 t.addr.b5, u8 t.addr.b6, u8 t.addr.b7, u8 t.addr.b8, u8 t.addr.b9, u8 t.addr.b10, u8 t.addr.b11, u8 t.addr.b12, u8 t.addr.b13, u8 t.addr.b14, u8 t.addr.b15, .int .i64 (t.port), u8 r56.addr.a, u8 r56.addr.b, u8 r56.addr.c, u8 r56.addr.d, .int .i64 (r56.port), .bool false, .int .i64 0])]) rfl (putb_spec ok hf126 (⟨0, 17, t, r56, false, 0⟩ : Binding) (show -9223372036854775808 ≤ (17 : Int) ∧ (17 : Int) ≤ 9223372036854775807 from ⟨by decide, by decide⟩) ht (show _ ∧ _ from ⟨by show _ ≤ r56.port; omega, by show r56.port ≤ _; omega⟩) hle hla hm4 hm3 (out_none hout ho3))) rfl ?_
      rintro _ w127 ⟨⟨x129, rfl, hx130, hP131⟩, hk128⟩
      have ka132 := (Kp.trans ka102 hk128 (fun _ _ e => (fun e => e.elim (fun e => (.inl e)) (fun e => e.elim (fun e => (.inr (.inl e))) (fun e => e.elim (fun e => (.inr (.inr (.inl e)))) (fun e => e.elim (fun e => (.inr (.inr (.inr (.inl e))))) (fun e => e.elim (fun e => (.inr (.inr (.inr (.inr (.inl e)))))) (fun e => (.inr (.inr (.inr (.inr (.inr (.inl e)))))))))))) e))
      have hb133 := BibIs.blk hP131; have hm134 := BibIs.map hP131; have hT135 := BibIs.tb hP131
      have hb136 := (hk128.get (hk101.get (hk97.get0 (hk54.get (hk22.get0 hb10) (Nat.ne_of_gt (nt (nt ((BibIs.lt h _ (mem_blocks (List.mem_of_getElem? (i := 14) (rfl : g.blocks[14]? = some (g.p 2).mb))))) hk7.size) (Nat.le_refl _))))) (Nat.ne_of_lt (nt (nt (lt_of_get hb10) (nl hk22.size hk54.size)) (Nat.le_refl _)))) (not_or.2 ⟨(Nat.ne_of_gt (nt (nt (lt_of_get hb0) hk7.size) (Nat.le_refl _))), (not_or.2 ⟨(Nat.ne_of_gt (nt (nt (hm0.lt) hk7.size) (Nat.le_refl _))), (not_or.2 ⟨(Nat.ne_of_gt (nt (nt ((BibIs.lt h _ (mem_blocks (List.mem_of_getElem? (i := 2) (rfl : g.blocks[2]? = some g.i1.ib))))) hk7.size) (Nat.le_refl _))), (not_or.2 ⟨(Nat.ne_of_gt (nt (nt ((BibIs.lt h _ (mem_blocks (List.mem_of_getElem? (i := 3) (rfl : g.blocks[3]? = some g.i1.sb))))) hk7.size) (Nat.le_refl _))), (not_or.2 ⟨(Nat.ne_of_gt (nt (nt ((BibIs.lt h _ (mem_blocks (List.mem_of_getElem? (i := 4) (rfl : g.blocks[4]? = some g.i2.ib))))) hk7.size) (Nat.le_refl _))), (Nat.ne_of_gt (nt (nt ((BibIs.lt h _ (mem_blocks (List.mem_of_getElem? (i := 5) (rfl : g.blocks[5]? = some g.i2.sb))))) hk7.size) (Nat.le_refl _)))⟩)⟩)⟩)⟩)⟩))
      refine s_e0 (e_storeV (cs' := #[(Vi ((⟨st.last + 1, 17, t, r56, false, 0⟩ : Binding).id)), (Vi ((⟨st.last + 1, 17, t, r56, false, 0⟩ : Binding).proto)), (u8 (((⟨st.last + 1, 17, t, r56, false, 0⟩ : Binding).inn).addr).b0), (u8 (((⟨st.last + 1, 17, t, r56, false, 0⟩ : Binding).inn).addr).b1), (u8 (((⟨st.last + 1, 17, t, r56, false, 0⟩ : Binding).inn).addr).b2), (u8 (((⟨st.last + 1, 17, t, r56, false, 0⟩ : Binding).inn).addr).b3), (u8 (((⟨st.last + 1, 17, t, r56, false, 0⟩ : Binding).inn).addr).b4), (u8 (((⟨st.last + 1, 17, t, r56, false, 0⟩ : Binding).inn).addr).b5), (u8 (((⟨st.last + 1, 17, t, r56, false, 0⟩ : Binding).inn).addr).b6), (u8 (((⟨st.last + 1, 17, t, r56, false, 0⟩ : Binding).inn).addr).b7), (u8 (((⟨st.last + 1, 17, t, r56, false, 0⟩ : Binding).inn).addr).b8), (u8 (((⟨st.last + 1, 17, t, r56, false, 0⟩ : Binding).inn).addr).b9), (u8 (((⟨st.last + 1, 17, t, r56, false, 0⟩ : Binding).inn).addr).b10), (u8 (((⟨st.last + 1, 17, t, r56, false, 0⟩ : Binding).inn).addr).b11), (u8 (((⟨st.last + 1, 17, t, r56, false, 0⟩ : Binding).inn).addr).b12), (u8 (((⟨st.last + 1, 17, t, r56, false, 0⟩ : Binding).inn).addr).b13), (u8 (((⟨st.last + 1, 17, t, r56, false, 0⟩ : Binding).inn).addr).b14), (u8 (((⟨st.last + 1, 17, t, r56, false, 0⟩ : Binding).inn).addr).b15), (Vi (((⟨st.last + 1, 17, t, r56, false, 0⟩ : Binding).inn).port)), (u8 (((⟨st.last + 1, 17, t, r56, false, 0⟩ : Binding).out).addr).a), (u8 (((⟨st.last + 1, 17, t, r56, false, 0⟩ : Binding).out).addr).b), (u8 (((⟨st.last + 1, 17, t, r56, false, 0⟩ : Binding).out).addr).c), (u8 (((⟨st.last + 1, 17, t, r56, false, 0⟩ : Binding).out).addr).d), (Vi (((⟨st.last + 1, 17, t, r56, false, 0⟩ : Binding).out).port)), (.bool ((⟨st.last + 1, 17, t, r56, false, 0⟩ : Binding).static)), (Vi ((⟨st.last + 1, 17, t, r56, false, 0⟩ : Binding).sessions))]) [(Vi ((⟨st.last + 1, 17, t, r56, false, 0⟩ : Binding).id)), (Vi ((⟨st.last + 1, 17, t, r56, false, 0⟩ : Binding).proto)), (u8 (((⟨st.last + 1, 17, t, r56, false, 0⟩ : Binding).inn).addr).b0), (u8 (((⟨st.last + 1, 17, t, r56, false, 0⟩ : Binding).inn).addr).b1), (u8 (((⟨st.last + 1, 17, t, r56, false, 0⟩ : Binding).inn).addr).b2), (u8 (((⟨st.last + 1, 17, t, r56, false, 0⟩ : Binding).inn).addr).b3), (u8 (((⟨st.last + 1, 17, t, r56, false, 0⟩ : Binding).inn).addr).b4), (u8 (((⟨st.last + 1, 17, t, r56, false, 0⟩ : Binding).inn).addr).b5), (u8 (((⟨st.last + 1, 17, t, r56, false, 0⟩ : Binding).inn).addr).b6), (u8 (((⟨st.last + 1, 17, t, r56, false, 0⟩ : Binding).inn).addr).b7), (u8 (((⟨st.last + 1, 17, t, r56, false, 0⟩ : Binding).inn).addr).b8), (u8 (((⟨st.last + 1, 17, t, r56, false, 0⟩ : Binding).inn).addr).b9), (u8 (((⟨st.last + 1, 17, t, r56, false, 0⟩ : Binding).inn).addr).b10), (u8 (((⟨st.last + 1, 17, t, r56, false, 0⟩ : Binding).inn).addr).b11), (u8 (((⟨st.last + 1, 17, t, r56, false, 0⟩ : Binding).inn).addr).b12), (u8 (((⟨st.last + 1, 17, t, r56, false, 0⟩ : Binding).inn).addr).b13), (u8 (((⟨st.last + 1, 17, t, r56, false, 0⟩ : Binding).inn).addr).b14), (u8 (((⟨st.last + 1, 17, t, r56, false, 0⟩ : Binding).inn).addr).b15), (Vi (((⟨st.last + 1, 17, t, r56, false, 0⟩ : Binding).inn).port)), (u8 (((⟨st.last + 1, 17, t, r56, false, 0⟩ : Binding).out).addr).a), (u8 (((⟨st.last + 1, 17, t, r56, false, 0⟩ : Binding).out).addr).b), (u8 (((⟨st.last + 1, 17, t, r56, false, 0⟩ : Binding).out).addr).c), (u8 (((⟨st.last + 1, 17, t, r56, false, 0⟩ : Binding).out).addr).d), (Vi (((⟨st.last + 1, 17, t, r56, false, 0⟩ : Binding).out).port)), (.bool ((⟨st.last + 1, 17, t, r56, false, 0⟩ : Binding).static)), (Vi ((⟨st.last + 1, 17, t, r56, false, 0⟩ : Binding).sessions))] g122 (v := (bv (⟨st.last + 1, 17, t, r56, false, 0⟩ : Binding))) rfl rfl sz36 hb136 rfl rfl rfl) ?_
      rintro _ w137 ⟨hb138, hk139⟩
      have ka140 := (Kp.fresh ka132 hk139 fun _ e => nl (nl hk7.size (Nat.le_refl _)) (Nat.le_of_eq e.symm))
      refine s_y (y_assign (v := (Vi 0)) rfl) rfl ?_
      refine s_nil (hK124 _ _ (genC [(6, (Vp w5.heap.size 0)), (7, (Vi 0))] ⟨g122, rfl, trivial⟩ ?_))
      clear hK124; rintro E ⟨g141, g142, -⟩
      refine ret (hret _ _ [(bv (⟨(⟨st.last + 1, 17, t, r56, false, 0⟩ : Binding).id, (⟨st.last + 1, 17, t, r56, false, 0⟩ : Binding).proto, (⟨(((⟨st.last + 1, 17, t, r56, false, 0⟩ : Binding).inn).addr), ((⟨st.last + 1, 17, t, r56, false, 0⟩ : Binding).inn).port⟩ : T6), (⟨(((⟨st.last + 1, 17, t, r56, false, 0⟩ : Binding).out).addr), ((⟨st.last + 1, 17, t, r56, false, 0⟩ : Binding).out).port⟩ : T4), (⟨st.last + 1, 17, t, r56, false, 0⟩ : Binding).static, (⟨st.last + 1, 17, t, r56, false, 0⟩ : Binding).sessions⟩ : Binding)), (Vi 0)] ⟨⟨_, g141, (rd_agg (vs := [(Vi ((⟨st.last + 1, 17, t, r56, false, 0⟩ : Binding).id)), (Vi ((⟨st.last + 1, 17, t, r56, false, 0⟩ : Binding).proto)), (u8 (((⟨st.last + 1, 17, t, r56, false, 0⟩ : Binding).inn).addr).b0), (u8 (((⟨st.last + 1, 17, t, r56, false, 0⟩ : Binding).inn).addr).b1), (u8 (((⟨st.last + 1, 17, t, r56, false, 0⟩ : Binding).inn).addr).b2), (u8 (((⟨st.last + 1, 17, t, r56, false, 0⟩ : Binding).inn).addr).b3), (u8 (((⟨st.last + 1, 17, t, r56, false, 0⟩ : Binding).inn).addr).b4), (u8 (((⟨st.last + 1, 17, t, r56, false, 0⟩ : Binding).inn).addr).b5), (u8 (((⟨st.last + 1, 17, t, r56, false, 0⟩ : Binding).inn).addr).b6), (u8 (((⟨st.last + 1, 17, t, r56, false, 0⟩ : Binding).inn).addr).b7), (u8 (((⟨st.last + 1, 17, t, r56, false, 0⟩ : Binding).inn).addr).b8), (u8 (((⟨st.last + 1, 17, t, r56, false, 0⟩ : Binding).inn).addr).b9), (u8 (((⟨st.last + 1, 17, t, r56, false, 0⟩ : Binding).inn).addr).b10), (u8 (((⟨st.last + 1, 17, t, r56, false, 0⟩ : Binding).inn).addr).b11), (u8 (((⟨st.last + 1, 17, t, r56, false, 0⟩ : Binding).inn).addr).b12), (u8 (((⟨st.last + 1, 17, t, r56, false, 0⟩ : Binding).inn).addr).b13), (u8 (((⟨st.last + 1, 17, t, r56, false, 0⟩ : Binding).inn).addr).b14), (u8 (((⟨st.last + 1, 17, t, r56, false, 0⟩ : Binding).inn).addr).b15), (Vi (((⟨st.last + 1, 17, t, r56, false, 0⟩ : Binding).inn).port)), (u8 (((⟨st.last + 1, 17, t, r56, false, 0⟩ : Binding).out).addr).a), (u8 (((⟨st.last + 1, 17, t, r56, false, 0⟩ : Binding).out).addr).b), (u8 (((⟨st.last + 1, 17, t, r56, false, 0⟩ : Binding).out).addr).c), (u8 (((⟨st.last + 1, 17, t, r56, false, 0⟩ : Binding).out).addr).d), (Vi (((⟨st.last + 1, 17, t, r56, false, 0⟩ : Binding).out).port)), (.bool ((⟨st.last + 1, 17, t, r56, false, 0⟩ : Binding).static)), (Vi ((⟨st.last + 1, 17, t, r56, false, 0⟩ : Binding).sessions))]) ag36 (On.now hb138) (by kernel_rfl) rfl)⟩, g142, trivial⟩ ?_)
      have hz143 := (nl (nl (nl hk22.size hk54.size) hk97.size) hk101.size)
      have hf144 := (BibIs.kp hP131 hk139 (fun b hb => (fun e => (fun hb => (bfp_add hb).elim (fun hb => Nat.lt_irrefl _ (nt (BibIs.lt h _ hb) (nl hk7.size (Nat.le_refl _)))) (fun e => Nat.ne_of_lt (nt (nt (lt_of_get hb10) hz143) hx130) e)) (e ▸ hb))) (Nat.ne_of_lt (nt (nt (hT0.lt) hk7.size) (Nat.le_refl _))))
      have hz145 := (nl (nl hz103 hk97.size) hk101.size)
      exact ⟨.inr (.inr ⟨Decidable.not_not.1 c36, _, _, ⟨_, hpr57, htq58⟩, rfl, nl hz145 hx130, hf144⟩), ka140⟩

end Go.Proofs.YtdcnblafepgheaaDoor
