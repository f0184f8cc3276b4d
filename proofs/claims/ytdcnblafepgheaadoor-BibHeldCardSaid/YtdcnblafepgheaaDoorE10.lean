/-
  Written by a program (wip/walks).
-/
import Derived.Test.YtdcnblafepgheaaDoorE9
namespace Go.Proofs.YtdcnblafepgheaaDoor
open Go Go.V
set_option maxRecDepth 100000
theorem blocks_ne {g : BibG} {st : BibS} (h : (bfp g st).Nodup) {i j a b : Nat} (hij : i ≠ j) (hi : g.blocks[i]? = some a) (hj : g.blocks[j]? = some b) : a ≠ b := by
  intro e; subst e
  have hn : g.blocks.Nodup := (List.nodup_append.1 h).1
  obtain ⟨hi1, hi2⟩ := List.getElem?_eq_some_iff.1 hi
  obtain ⟨hj1, hj2⟩ := List.getElem?_eq_some_iff.1 hj
  exact hij ((List.getElem_inj hn).1 (hi2.trans hj2.symm))
/-- no block of the table is the library's -/
theorem bib_tb_ne {g : BibG} {st : BibS} {w : World} (h : BibIs g st w) {i b : Nat} (hi : g.blocks[i]? = some b) : b ≠ 0 := fun e => h.tbn (e ▸ mem_blocks (List.mem_of_getElem? hi))
def setH (h : Nat → List (T4 × Bool)) (k : Nat) (v : List (T4 × Bool)) : Nat → List (T4 × Bool) := fun j => if j = k then v else h j
def mbAt (k : Nat) : Nat := 8 + 3 * k
theorem mbAt_get (g : BibG) {k : Nat} (hk : k < 3) : g.blocks[mbAt k]? = some (g.p k).mb := by
  match k, hk with
  | 0, _ => rfl
  | 1, _ => rfl
  | 2, _ => rfl
theorem mbAt_mem (g : BibG) {k : Nat} (hk : k < 3) : (g.p k).mb ∈ g.blocks := List.mem_of_getElem? (mbAt_get g hk)
theorem BibIs.pool_put {g : BibG} {st : BibS} {w w' : World} (h : BibIs g st w) {k : Nat} (hk : k < 3) {held' : List (T4 × Bool)} (hp : PoolIs (g.p k) held' w') (kp : Kp (· = (g.p k).mb) w w') : BibIs g { st with h := setH st.h k held' } w' := by
  have hne : ∀ i b, i ≠ mbAt k → g.blocks[i]? = some b → b ≠ (g.p k).mb := fun i b hi hb => blocks_ne h.nd hi hb (mbAt_get g hk)
  have hm : mbAt k = 8 ∨ mbAt k = 11 ∨ mbAt k = 14 := by unfold mbAt; omega
  refine ⟨kp.get h.blk (hne 0 _ (by omega) rfl), h.map.kp kp (hne 1 _ (by omega) rfl), fun q hq => kp.get (h.box q hq) (fun e => ?_), h.ixin.kp kp (hne 2 _ (by omega) rfl) (hne 3 _ (by omega) rfl), h.ixout.kp kp (hne 4 _ (by omega) rfl) (hne 5 _ (by omega) rfl), fun j hj => ?_, h.tb.kp kp (fun e => h.tbn (e ▸ mem_blocks (mbAt_mem g hk))), h.nd, h.tbn⟩
  · have hd := (List.nodup_append.1 h.nd).2.2 _ (mbAt_mem g hk) q.2 (List.mem_map.2 ⟨q, hq, rfl⟩)
    exact hd e.symm
  · unfold setH
    by_cases e : j = k
    · subst e; simp only [if_true]; exact hp
    · simp only [if_neg e]
      have hb : ∀ i b, g.blocks[i]? = some b → i ≠ mbAt k → b ≠ (g.p k).mb := fun i b h1 h2 => hne i b h2 h1
      match j, hj with
      | 0, hj => exact (h.pool 0 hj).kp kp (hne 6 _ (by omega) rfl) (hne 7 _ (by omega) rfl) (hne 8 _ (by unfold mbAt; omega) rfl)
      | 1, hj => exact (h.pool 1 hj).kp kp (hne 9 _ (by omega) rfl) (hne 10 _ (by omega) rfl) (hne 11 _ (by unfold mbAt; omega) rfl)
      | 2, hj => exact (h.pool 2 hj).kp kp (hne 12 _ (by omega) rfl) (hne 13 _ (by omega) rfl) (hne 14 _ (by unfold mbAt; omega) rfl)
theorem take2_spec {g : PoolG} {held : List (T4 × Bool)} {w : World} (h : PoolIs g held w) (ok : PoolOk g) (a : V4) (x : Int) (plain : Bool) : Rets Tryd.prog 83 #[.pointer (some ⟨g.pb, 0, none⟩), v4 a, .int .i64 x, .bool plain] w fun v w' =>
    ((∃ e : Int, e ≠ 0 ∧ TakeQ g held a x plain none ∧ PoolIs g held w' ∧ v = .tuple #[t4 zeroT4, .int .i64 e]) ∨ (∃ t, TakeQ g held a x plain (some t) ∧ PoolIs g (held ++ [(t, false)]) w' ∧ v = .tuple #[t4 t, .int .i64 0])) ∧ Kp (· = g.mb) w w' :=
  (take_spec h ok a x plain).mono fun v w' ⟨r, h1, h2, h3, h4⟩ => ⟨by
    cases r with
    | none => exact .inl ⟨takeE x none, by unfold takeE; by_cases hx : isPort x <;> simp [hx], h2, h3, h1⟩
    | some t => exact .inr ⟨t, h2, h3, h1⟩, h4⟩
theorem take_0 {g : BibG} {st : BibS} {w : World} (ok : BibOk g) (h : BibIs g st w) (t : T6) (h1 : ∀ q ∈ st.l, 1 ≤ q.1.id)  : Rets Tryd.prog 47 #[(.pointer (some ⟨g.tb, 0, none⟩)), (.int .i64 1), (t6 t)] w fun v w' => ((∃ a, PairR g st.l t.addr a ∧ TakeQ (g.p 0) (st.h 0) a t.port (decide ((1 : Int) = 1)) none ∧ BibIs g { st with h := setH st.h 0 (st.h 0) } w' ∧ v = .tuple #[t4 zeroT4, .int .i64 13]) ∨ (∃ a r, PairR g st.l t.addr a ∧ TakeQ (g.p 0) (st.h 0) a t.port (decide ((1 : Int) = 1)) (some r) ∧ BibIs g { st with h := setH st.h 0 (st.h 0 ++ [(r, false)]) } w' ∧ v = .tuple #[t4 r, .int .i64 0])) ∧ Kp (· = (g.p 0).mb) w w' := by
  refine enter Tryd.func47 rfl Tryd.ntmps47 rfl fun Q hret hend E hE => ?_
  have g1 : E 0 = (Vp g.tb 0) := hE 0
  have g2 : E 1 = (Vi 1) := hE 1
  have g3 : E 2 = (t6 t) := hE 2
  clear hE
  have hb0 := h.blk; have hm0 := h.map; have hT0 := h.tb; have hn1 : g.tb ≠ g.mb := blk_ne_map h.blk h.map
  refine seq fun K4 hK4 => ?_
  refine reg ?_
  refine s_e (e_box (v := (t6 t)) g3) rfl ?_
  rintro _ w5 ⟨rfl, hb6, hk7⟩
  have ka8 : Kp (· = (g.p 0).mb) w w5 := (Kp.then0 (Kp.refl _ _) hk7)
  refine s_e (e_alloc ze34) rfl ?_
  rintro _ w9 ⟨rfl, hb10, hk11⟩
  have ka12 := (Kp.then0 ka8 hk11)
  refine s_y (y_assign (v := (Vi 0)) rfl) rfl ?_
  refine s_nil (hK4 _ _ (genC [(0, (Vp g.tb 0)), (1, (Vi 1)), (5, (Vp w.heap.size 0)), (6, (Vp w5.heap.size 0))] ⟨g1, g2, rfl, rfl, trivial⟩ ?_))
  clear hK4; rintro E ⟨g13, g14, g15, g16, -⟩
  refine seq fun K17 hK17 => ?_
  refine regD (· = (g.p 0).mb) (.take 0 (.take 1 (.take 3 (.take 4 (.take 7 (.take 8 (.take 9 (.take 11 (.take 12 (.take 13 (.take 14 (.two 2 (.take 5 (.take 6 (.two 10 (.two 15 (.take 16 (.take 17 (.take 18 (.one 19 (.one 20 (.take 21 .done)))))) 19 (.one 15 (.take 16 (.take 17 (.take 18 (.one 20 (.take 21 .done))))))) 19 (.one 10 (.one 15 (.take 16 (.take 17 (.take 18 (.one 20 (.take 21 .done)))))))))) 19 (.one 2 (.take 5 (.take 6 (.one 10 (.one 15 (.take 16 (.take 17 (.take 18 (.one 20 (.take 21 .done)))))))))))))))))))))) mixed (by kernel_rfl) fun w18 hh19 hk20 => ?_
  have ka21 := (Kp.then0 ka12 hk20)
  refine o_y rfl (y_move (v := (Vp g.tb 0)) g13) ?_
  refine o_y rfl (y_move (v := (Vi 1)) g14) ?_
  refine o_y rfl (y_nil rfl) ?_
  refine o_y rfl (y_fld fo95_6 rfl) ?_
  refine o_y rfl (y_move (v := (Vp g.tb 0)) g13) ?_
  refine o_y rfl (y_fld fo32_0 g15) ?_
  refine o_y rfl (y_load (v := (v6 t.addr)) rfl (rd_agg (vs := [(u8 t.addr.b0), (u8 t.addr.b1), (u8 t.addr.b2), (u8 t.addr.b3), (u8 t.addr.b4), (u8 t.addr.b5), (u8 t.addr.b6), (u8 t.addr.b7), (u8 t.addr.b8), (u8 t.addr.b9), (u8 t.addr.b10), (u8 t.addr.b11), (u8 t.addr.b12), (u8 t.addr.b13), (u8 t.addr.b14), (u8 t.addr.b15)]) ag30 (On.kp (hk20.get0 (hk11.get0 hb6)) (Nat.ne_of_gt (nt ((BibIs.lt h _ (mem_blocks (List.mem_of_getElem? (i := 8) (rfl : g.blocks[8]? = some (g.p 0).mb))))) (Nat.le_refl _)))) (by kernel_rfl) rfl)) ?_
  refine o_y rfl (y_fld fo32_1 g15) ?_
  refine o_y rfl (y_load (v := (Vi (t.port))) rfl (rd_sc sc3 (On.kp (hk20.get0 (hk11.get0 hb6)) (Nat.ne_of_gt (nt ((BibIs.lt h _ (mem_blocks (List.mem_of_getElem? (i := 8) (rfl : g.blocks[8]? = some (g.p 0).mb))))) (Nat.le_refl _)))) rfl)) ?_
  refine o_y rfl (y_move (v := (Vi 1)) g14) ?_
  refine o_y rfl (y_eql rfl rfl) ?_
  refine o_two ?_ ?_
  · refine c_e rfl (e_call ca51 (args := [(Vi 1)]) rfl (kind_spec 1 _)) ?_
    rintro _ w22 ⟨rfl, hk23⟩
    have ka24 := (Kp.then0 ka21 hk23)
    have ks25 : Kp (· = (g.p 0).mb) w18 w22 := (Kp.then0 (Kp.refl _ _) hk23)
    refine ⟨ks25, ?_⟩
    refine o_y rfl (y_idxA ao93 sz92 rfl (i := 0) rfl (by omega)) ?_
    refine o_y rfl (y_load (v := (Vp ((g.p 0).pb) 0)) rfl (rd_sc sc92 (On.kp (hk20.get0 (hk11.get0 (hk7.get0 hb0))) (blocks_ne h.nd (i := 0) (j := 8) (by decide) rfl rfl)) rfl)) ?_
    refine o_two ?_ ?_
    · have hf26 := (BibIs.k0 (BibIs.k0 (BibIs.k0 (BibIs.k0 h hk7) hk11) hk20) hk23)
      refine c_e rfl (e_call ca84 (args := [(Vp g.tb 0), (v6 t.addr)]) rfl (pair_spec hf26 t.addr h1)) ?_
      rintro _ w27 ⟨⟨r29, rfl, hr30⟩, hk28⟩
      have ka31 := (Kp.then0 ka24 hk28)
      have ks32 := (Kp.then0 ks25 hk28)
      refine ⟨ks32, ?_⟩
      refine o_two ?_ ?_
      · have hf33 := (BibIs.k0 hf26 hk28)
        refine c_e rfl (e_call ca83 (args := [(Vp ((g.p 0).pb) 0), (v4 r29), (Vi (t.port)), Vt]) rfl (take2_spec (BibIs.pool hf33 0 (by omega)) (ok.pool 0 (by omega)) r29 t.port (decide ((1 : Int) = 1)))) ?_
        rintro _ w34 ⟨⟨e36, he37, hq38, hp39, rfl⟩ | ⟨t40, hq38, hp39, rfl⟩, hk35⟩
        · have hBw34 := BibIs.pool_put hf33 (k := 0) (by omega) hp39 hk35
          have ka41 := (Kp.trans ka31 hk35 (fun _ _ e => e))
          have ks42 := (Kp.trans ks32 hk35 (fun _ _ e => e))
          refine ⟨ks42, ?_⟩
          refine o_y rfl (y_move (v := (.tuple #[(t4 zeroT4), (Vi e36)])) rfl) ?_
          refine o_y rfl (y_ext rfl (v := (t4 zeroT4)) rfl) ?_
          refine o_y rfl (y_ext rfl (v := (Vi e36)) rfl) ?_
          refine o_one ?_
          refine c_e rfl (e_alloc ze34) ?_
          rintro _ w43 ⟨rfl, hb44, hk45⟩
          have ka46 := (Kp.then0 ka41 hk45)
          have ks47 := (Kp.then0 ks42 hk45)
          refine ⟨ks47, ?_⟩
          refine o_one ?_
          refine c_e0 rfl (e_storeV (cs' := zeroT4.cs.toArray) zeroT4.cs rfl (v := (t4 zeroT4)) rfl rfl sz34 hb44 rfl rfl rfl) ?_
          rintro _ w48 ⟨hb49, hk50⟩
          have hz52 := (nl (nl (nl (nl (nl hk7.size hk11.size) hk20.size) hk23.size) hk28.size) hk35.size)
          have ka51 := (Kp.fresh ka46 hk50 fun _ e => nl (nl hz52 (Nat.le_refl _)) (Nat.le_of_eq e.symm))
          have hz54 := (nl (nl hk23.size hk28.size) hk35.size)
          have ks53 := (Kp.fresh ks47 hk50 fun _ e => nl (nl hz54 (Nat.le_refl _)) (Nat.le_of_eq e.symm))
          refine ⟨ks53, ?_⟩
          refine o_y rfl (y_assign (v := (Vi e36)) rfl) ?_
          refine o_done (hK17 _ _ (genC [(6, (Vp w5.heap.size 0)), (8, (Vp w34.heap.size 0)), (9, (Vi e36))] ⟨g16, rfl, rfl, trivial⟩ ?_))
          clear hK17; rintro E ⟨g55, g56, g57, -⟩
          refine seq fun K58 hK58 => ?_
          refine seq fun K59 hK59 => ?_
          refine reg ?_
          refine s_y (y_move (v := (Vi e36)) g57) rfl ?_
          refine s_y (y_neq rfl rfl) rfl ?_
          refine s_nil (hK59 _ _ (genC [(6, (Vp w5.heap.size 0)), (8, (Vp w34.heap.size 0)), (30, (.bool (decide ((e36 : Int) ≠ 0))))] ⟨g55, g56, rfl, trivial⟩ ?_))
          clear hK59; rintro E ⟨g60, g61, g62, -⟩
          refine cond_d g62 (fun c63 => ?_) (fun c63 => ?_)
          · refine seq fun K64 hK64 => ?_
            refine reg ?_
            refine s_y (y_build (vs := []) (v := (.agg #[U0, U0, U0, U0, .int .i64 0])) rfl (fun _ => by kernel_rfl)) rfl ?_
            have hz65 := (nl (nl (nl hk20.size hk23.size) hk28.size) hk35.size)
            have hb66 := (hk50.get (hk45.get0 (hk35.get (hk28.get0 (hk23.get0 (hk20.get0 hb10))) (Nat.ne_of_gt (nt (nt ((BibIs.lt h _ (mem_blocks (List.mem_of_getElem? (i := 8) (rfl : g.blocks[8]? = some (g.p 0).mb))))) hk7.size) (Nat.le_refl _))))) (Nat.ne_of_lt (nt (nt (lt_of_get hb10) hz65) (Nat.le_refl _))))
            refine s_e0 (e_storeV (cs' := #[U0, U0, U0, U0, (Vi 0)]) [U0, U0, U0, U0, (Vi 0)] g60 (v := (.agg #[U0, U0, U0, U0, .int .i64 0])) rfl rfl sz34 hb66 rfl rfl rfl) ?_
            rintro _ w67 ⟨hb68, hk69⟩
            have ka70 := (Kp.fresh ka51 hk69 fun _ e => nl (nl hk7.size (Nat.le_refl _)) (Nat.le_of_eq e.symm))
            refine s_y (y_assign (v := (Vi 13)) rfl) rfl ?_
            refine s_nil (hK64 _ _ (genC [(6, (Vp w5.heap.size 0)), (7, (Vi 13))] ⟨g60, rfl, trivial⟩ ?_))
            clear hK64; rintro E ⟨g71, g72, -⟩
            refine ret (hret _ _ [(t4 (⟨(⟨0, 0, 0, 0⟩ : V4), 0⟩ : T4)), (Vi 13)] ⟨⟨_, g71, (rd_agg (vs := [U0, U0, U0, U0, (Vi 0)]) ag34 (On.now hb68) (by kernel_rfl) rfl)⟩, g72, trivial⟩ ?_)
            have hf73 := (BibIs.kp (BibIs.kp (BibIs.k0 hBw34 hk45) hk50 (fun b hb => (fun e => (fun hb => Nat.lt_irrefl _ (nt (BibIs.lt h _ hb) (nl hz52 (Nat.le_refl _)))) (e ▸ hb))) (Nat.ne_of_lt (nt (nt (hT0.lt) hz52) (Nat.le_refl _)))) hk69 (fun b hb => (fun e => (fun hb => Nat.lt_irrefl _ (nt (BibIs.lt h _ hb) (nl hk7.size (Nat.le_refl _)))) (e ▸ hb))) (Nat.ne_of_lt (nt (nt (hT0.lt) hk7.size) (Nat.le_refl _))))
            exact ⟨.inl ⟨_, hr30, hq38, hf73, rfl⟩, ka70⟩
          · omega
        · have hBw34 := BibIs.pool_put hf33 (k := 0) (by omega) hp39 hk35
          have ka74 := (Kp.trans ka31 hk35 (fun _ _ e => e))
          have ks75 := (Kp.trans ks32 hk35 (fun _ _ e => e))
          refine ⟨ks75, ?_⟩
          refine o_y rfl (y_move (v := (.tuple #[(t4 t40), (Vi 0)])) rfl) ?_
          refine o_y rfl (y_ext rfl (v := (t4 t40)) rfl) ?_
          refine o_y rfl (y_ext rfl (v := (Vi 0)) rfl) ?_
          refine o_one ?_
          refine c_e rfl (e_alloc ze34) ?_
          rintro _ w76 ⟨rfl, hb77, hk78⟩
          have ka79 := (Kp.then0 ka74 hk78)
          have ks80 := (Kp.then0 ks75 hk78)
          refine ⟨ks80, ?_⟩
          refine o_one ?_
          refine c_e0 rfl (e_storeV (cs' := t40.cs.toArray) t40.cs rfl (v := (t4 t40)) rfl rfl sz34 hb77 rfl rfl rfl) ?_
          rintro _ w81 ⟨hb82, hk83⟩
          have hz85 := (nl (nl (nl (nl (nl hk7.size hk11.size) hk20.size) hk23.size) hk28.size) hk35.size)
          have ka84 := (Kp.fresh ka79 hk83 fun _ e => nl (nl hz85 (Nat.le_refl _)) (Nat.le_of_eq e.symm))
          have hz87 := (nl (nl hk23.size hk28.size) hk35.size)
          have ks86 := (Kp.fresh ks80 hk83 fun _ e => nl (nl hz87 (Nat.le_refl _)) (Nat.le_of_eq e.symm))
          refine ⟨ks86, ?_⟩
          refine o_y rfl (y_assign (v := (Vi 0)) rfl) ?_
          refine o_done (hK17 _ _ (genC [(6, (Vp w5.heap.size 0)), (8, (Vp w34.heap.size 0)), (9, (Vi 0))] ⟨g16, rfl, rfl, trivial⟩ ?_))
          clear hK17; rintro E ⟨g88, g89, g90, -⟩
          refine seq fun K91 hK91 => ?_
          refine seq fun K92 hK92 => ?_
          refine reg ?_
          refine s_y (y_move (v := (Vi 0)) g90) rfl ?_
          refine s_y (y_neq rfl rfl) rfl ?_
          refine s_nil (hK92 _ _ (genC [(6, (Vp w5.heap.size 0)), (8, (Vp w34.heap.size 0)), (30, Vf)] ⟨g88, g89, rfl, trivial⟩ ?_))
          clear hK92; rintro E ⟨g93, g94, g95, -⟩
          refine cond_f g95 ?_
          refine skip (hK91 _ _ (genC [(6, (Vp w5.heap.size 0)), (8, (Vp w34.heap.size 0))] ⟨g93, g94, trivial⟩ ?_))
          clear hK91; rintro E ⟨g96, g97, -⟩
          refine seq fun K98 hK98 => ?_
          refine reg ?_
          refine s_y (y_load (v := (t4 t40)) g97 (rd_agg (vs := t40.cs) ag34 (On.now hb82) (by kernel_rfl) rfl)) rfl ?_
          have hz99 := (nl (nl (nl hk20.size hk23.size) hk28.size) hk35.size)
          have hb100 := (hk83.get (hk78.get0 (hk35.get (hk28.get0 (hk23.get0 (hk20.get0 hb10))) (Nat.ne_of_gt (nt (nt ((BibIs.lt h _ (mem_blocks (List.mem_of_getElem? (i := 8) (rfl : g.blocks[8]? = some (g.p 0).mb))))) hk7.size) (Nat.le_refl _))))) (Nat.ne_of_lt (nt (nt (lt_of_get hb10) hz99) (Nat.le_refl _))))
          refine s_e0 (e_storeV (cs' := t40.cs.toArray) t40.cs g96 (v := (t4 t40)) rfl rfl sz34 hb100 rfl rfl rfl) ?_
          rintro _ w101 ⟨hb102, hk103⟩
          have ka104 := (Kp.fresh ka84 hk103 fun _ e => nl (nl hk7.size (Nat.le_refl _)) (Nat.le_of_eq e.symm))
          refine s_y (y_assign (v := (Vi 0)) rfl) rfl ?_
          refine s_nil (hK98 _ _ (genC [(6, (Vp w5.heap.size 0)), (7, (Vi 0))] ⟨g96, rfl, trivial⟩ ?_))
          clear hK98; rintro E ⟨g105, g106, -⟩
          refine ret (hret _ _ [(t4 t40), (Vi 0)] ⟨⟨_, g105, (rd_agg (vs := t40.cs) ag34 (On.now hb102) (by kernel_rfl) rfl)⟩, g106, trivial⟩ ?_)
          have hf107 := (BibIs.kp (BibIs.kp (BibIs.k0 hBw34 hk78) hk83 (fun b hb => (fun e => (fun hb => Nat.lt_irrefl _ (nt (BibIs.lt h _ hb) (nl hz85 (Nat.le_refl _)))) (e ▸ hb))) (Nat.ne_of_lt (nt (nt (hT0.lt) hz85) (Nat.le_refl _)))) hk103 (fun b hb => (fun e => (fun hb => Nat.lt_irrefl _ (nt (BibIs.lt h _ hb) (nl hk7.size (Nat.le_refl _)))) (e ▸ hb))) (Nat.ne_of_lt (nt (nt (hT0.lt) hk7.size) (Nat.le_refl _))))
          exact ⟨.inr ⟨_, _, hr30, hq38, hf107, rfl⟩, ka104⟩
      · refine c_e rfl (e_alloc ze34) ?_
        rintro _ w108 ⟨rfl, hb109, hk110⟩
        have ka111 := (Kp.then0 ka31 hk110)
        have ks112 := (Kp.then0 ks32 hk110)
        refine ⟨ks112, ?_⟩
        refine o_one ?_
        have hf113 := (BibIs.k0 (BibIs.k0 hf26 hk28) hk110)
        refine c_e rfl (e_call ca83 (args := [(Vp ((g.p 0).pb) 0), (v4 r29), (Vi (t.port)), Vt]) rfl (take2_spec (BibIs.pool hf113 0 (by omega)) (ok.pool 0 (by omega)) r29 t.port (decide ((1 : Int) = 1)))) ?_
        rintro _ w114 ⟨⟨e116, he117, hq118, hp119, rfl⟩ | ⟨t120, hq118, hp119, rfl⟩, hk115⟩
        · have hBw114 := BibIs.pool_put hf113 (k := 0) (by omega) hp119 hk115
          have ka121 := (Kp.trans ka111 hk115 (fun _ _ e => e))
          have ks122 := (Kp.trans ks112 hk115 (fun _ _ e => e))
          refine ⟨ks122, ?_⟩
          refine o_y rfl (y_move (v := (.tuple #[(t4 zeroT4), (Vi e116)])) rfl) ?_
          refine o_y rfl (y_ext rfl (v := (t4 zeroT4)) rfl) ?_
          refine o_y rfl (y_ext rfl (v := (Vi e116)) rfl) ?_
          refine o_one ?_
          have hz123 := (nl (nl (nl (nl hk7.size hk11.size) hk20.size) hk23.size) hk28.size)
          have hb124 := (hk115.get hb109 (Nat.ne_of_gt (nt (nt ((BibIs.lt h _ (mem_blocks (List.mem_of_getElem? (i := 8) (rfl : g.blocks[8]? = some (g.p 0).mb))))) hz123) (Nat.le_refl _))))
          refine c_e0 rfl (e_storeV (cs' := zeroT4.cs.toArray) zeroT4.cs rfl (v := (t4 zeroT4)) rfl rfl sz34 hb124 rfl rfl rfl) ?_
          rintro _ w125 ⟨hb126, hk127⟩
          have ka128 := (Kp.fresh ka121 hk127 fun _ e => nl (nl hz123 (Nat.le_refl _)) (Nat.le_of_eq e.symm))
          have ks129 := (Kp.fresh ks122 hk127 fun _ e => nl (nl (nl hk23.size hk28.size) (Nat.le_refl _)) (Nat.le_of_eq e.symm))
          refine ⟨ks129, ?_⟩
          refine o_y rfl (y_assign (v := (Vi e116)) rfl) ?_
          refine o_done (hK17 _ _ (genC [(6, (Vp w5.heap.size 0)), (8, (Vp w27.heap.size 0)), (9, (Vi e116))] ⟨g16, rfl, rfl, trivial⟩ ?_))
          clear hK17; rintro E ⟨g130, g131, g132, -⟩
          refine seq fun K133 hK133 => ?_
          refine seq fun K134 hK134 => ?_
          refine reg ?_
          refine s_y (y_move (v := (Vi e116)) g132) rfl ?_
          refine s_y (y_neq rfl rfl) rfl ?_
          refine s_nil (hK134 _ _ (genC [(6, (Vp w5.heap.size 0)), (8, (Vp w27.heap.size 0)), (30, (.bool (decide ((e116 : Int) ≠ 0))))] ⟨g130, g131, rfl, trivial⟩ ?_))
          clear hK134; rintro E ⟨g135, g136, g137, -⟩
          refine cond_d g137 (fun c138 => ?_) (fun c138 => ?_)
          · refine seq fun K139 hK139 => ?_
            refine reg ?_
            refine s_y (y_build (vs := []) (v := (.agg #[U0, U0, U0, U0, .int .i64 0])) rfl (fun _ => by kernel_rfl)) rfl ?_
            have hz140 := (nl (nl hk20.size hk23.size) hk28.size)
            have hb141 := (hk127.get (hk115.get (hk110.get0 (hk28.get0 (hk23.get0 (hk20.get0 hb10)))) (Nat.ne_of_gt (nt (nt ((BibIs.lt h _ (mem_blocks (List.mem_of_getElem? (i := 8) (rfl : g.blocks[8]? = some (g.p 0).mb))))) hk7.size) (Nat.le_refl _)))) (Nat.ne_of_lt (nt (nt (lt_of_get hb10) hz140) (Nat.le_refl _))))
            refine s_e0 (e_storeV (cs' := #[U0, U0, U0, U0, (Vi 0)]) [U0, U0, U0, U0, (Vi 0)] g135 (v := (.agg #[U0, U0, U0, U0, .int .i64 0])) rfl rfl sz34 hb141 rfl rfl rfl) ?_
            rintro _ w142 ⟨hb143, hk144⟩
            have ka145 := (Kp.fresh ka128 hk144 fun _ e => nl (nl hk7.size (Nat.le_refl _)) (Nat.le_of_eq e.symm))
            refine s_y (y_assign (v := (Vi 13)) rfl) rfl ?_
            refine s_nil (hK139 _ _ (genC [(6, (Vp w5.heap.size 0)), (7, (Vi 13))] ⟨g135, rfl, trivial⟩ ?_))
            clear hK139; rintro E ⟨g146, g147, -⟩
            refine ret (hret _ _ [(t4 (⟨(⟨0, 0, 0, 0⟩ : V4), 0⟩ : T4)), (Vi 13)] ⟨⟨_, g146, (rd_agg (vs := [U0, U0, U0, U0, (Vi 0)]) ag34 (On.now hb143) (by kernel_rfl) rfl)⟩, g147, trivial⟩ ?_)
            have hf148 := (BibIs.kp (BibIs.kp hBw114 hk127 (fun b hb => (fun e => (fun hb => Nat.lt_irrefl _ (nt (BibIs.lt h _ hb) (nl hz123 (Nat.le_refl _)))) (e ▸ hb))) (Nat.ne_of_lt (nt (nt (hT0.lt) hz123) (Nat.le_refl _)))) hk144 (fun b hb => (fun e => (fun hb => Nat.lt_irrefl _ (nt (BibIs.lt h _ hb) (nl hk7.size (Nat.le_refl _)))) (e ▸ hb))) (Nat.ne_of_lt (nt (nt (hT0.lt) hk7.size) (Nat.le_refl _))))
            exact ⟨.inl ⟨_, hr30, hq118, hf148, rfl⟩, ka145⟩
          · omega
        · have hBw114 := BibIs.pool_put hf113 (k := 0) (by omega) hp119 hk115
          have ka149 := (Kp.trans ka111 hk115 (fun _ _ e => e))
          have ks150 := (Kp.trans ks112 hk115 (fun _ _ e => e))
          refine ⟨ks150, ?_⟩
          refine o_y rfl (y_move (v := (.tuple #[(t4 t120), (Vi 0)])) rfl) ?_
          refine o_y rfl (y_ext rfl (v := (t4 t120)) rfl) ?_
          refine o_y rfl (y_ext rfl (v := (Vi 0)) rfl) ?_
          refine o_one ?_
          have hz151 := (nl (nl (nl (nl hk7.size hk11.size) hk20.size) hk23.size) hk28.size)
          have hb152 := (hk115.get hb109 (Nat.ne_of_gt (nt (nt ((BibIs.lt h _ (mem_blocks (List.mem_of_getElem? (i := 8) (rfl : g.blocks[8]? = some (g.p 0).mb))))) hz151) (Nat.le_refl _))))
          refine c_e0 rfl (e_storeV (cs' := t120.cs.toArray) t120.cs rfl (v := (t4 t120)) rfl rfl sz34 hb152 rfl rfl rfl) ?_
          rintro _ w153 ⟨hb154, hk155⟩
          have ka156 := (Kp.fresh ka149 hk155 fun _ e => nl (nl hz151 (Nat.le_refl _)) (Nat.le_of_eq e.symm))
          have ks157 := (Kp.fresh ks150 hk155 fun _ e => nl (nl (nl hk23.size hk28.size) (Nat.le_refl _)) (Nat.le_of_eq e.symm))
          refine ⟨ks157, ?_⟩
          refine o_y rfl (y_assign (v := (Vi 0)) rfl) ?_
          refine o_done (hK17 _ _ (genC [(6, (Vp w5.heap.size 0)), (8, (Vp w27.heap.size 0)), (9, (Vi 0))] ⟨g16, rfl, rfl, trivial⟩ ?_))
          clear hK17; rintro E ⟨g158, g159, g160, -⟩
          refine seq fun K161 hK161 => ?_
          refine seq fun K162 hK162 => ?_
          refine reg ?_
          refine s_y (y_move (v := (Vi 0)) g160) rfl ?_
          refine s_y (y_neq rfl rfl) rfl ?_
          refine s_nil (hK162 _ _ (genC [(6, (Vp w5.heap.size 0)), (8, (Vp w27.heap.size 0)), (30, Vf)] ⟨g158, g159, rfl, trivial⟩ ?_))
          clear hK162; rintro E ⟨g163, g164, g165, -⟩
          refine cond_f g165 ?_
          refine skip (hK161 _ _ (genC [(6, (Vp w5.heap.size 0)), (8, (Vp w27.heap.size 0))] ⟨g163, g164, trivial⟩ ?_))
          clear hK161; rintro E ⟨g166, g167, -⟩
          refine seq fun K168 hK168 => ?_
          refine reg ?_
          refine s_y (y_load (v := (t4 t120)) g167 (rd_agg (vs := t120.cs) ag34 (On.now hb154) (by kernel_rfl) rfl)) rfl ?_
          have hz169 := (nl (nl hk20.size hk23.size) hk28.size)
          have hb170 := (hk155.get (hk115.get (hk110.get0 (hk28.get0 (hk23.get0 (hk20.get0 hb10)))) (Nat.ne_of_gt (nt (nt ((BibIs.lt h _ (mem_blocks (List.mem_of_getElem? (i := 8) (rfl : g.blocks[8]? = some (g.p 0).mb))))) hk7.size) (Nat.le_refl _)))) (Nat.ne_of_lt (nt (nt (lt_of_get hb10) hz169) (Nat.le_refl _))))
          refine s_e0 (e_storeV (cs' := t120.cs.toArray) t120.cs g166 (v := (t4 t120)) rfl rfl sz34 hb170 rfl rfl rfl) ?_
          rintro _ w171 ⟨hb172, hk173⟩
          have ka174 := (Kp.fresh ka156 hk173 fun _ e => nl (nl hk7.size (Nat.le_refl _)) (Nat.le_of_eq e.symm))
          refine s_y (y_assign (v := (Vi 0)) rfl) rfl ?_
          refine s_nil (hK168 _ _ (genC [(6, (Vp w5.heap.size 0)), (7, (Vi 0))] ⟨g166, rfl, trivial⟩ ?_))
          clear hK168; rintro E ⟨g175, g176, -⟩
          refine ret (hret _ _ [(t4 t120), (Vi 0)] ⟨⟨_, g175, (rd_agg (vs := t120.cs) ag34 (On.now hb172) (by kernel_rfl) rfl)⟩, g176, trivial⟩ ?_)
          have hf177 := (BibIs.kp (BibIs.kp hBw114 hk155 (fun b hb => (fun e => (fun hb => Nat.lt_irrefl _ (nt (BibIs.lt h _ hb) (nl hz151 (Nat.le_refl _)))) (e ▸ hb))) (Nat.ne_of_lt (nt (nt (hT0.lt) hz151) (Nat.le_refl _)))) hk173 (fun b hb => (fun e => (fun hb => Nat.lt_irrefl _ (nt (BibIs.lt h _ hb) (nl hk7.size (Nat.le_refl _)))) (e ▸ hb))) (Nat.ne_of_lt (nt (nt (hT0.lt) hk7.size) (Nat.le_refl _))))
          exact ⟨.inr ⟨_, _, hr30, hq118, hf177, rfl⟩, ka174⟩
    · refine c_e rfl (e_alloc ze34) ?_
      rintro _ w178 ⟨rfl, hb179, hk180⟩
      have ka181 := (Kp.then0 ka24 hk180)
      have ks182 := (Kp.then0 ks25 hk180)
      refine ⟨ks182, ?_⟩
      refine o_one ?_
      have hf183 := (BibIs.k0 (BibIs.k0 (BibIs.k0 (BibIs.k0 (BibIs.k0 h hk7) hk11) hk20) hk23) hk180)
      refine c_e rfl (e_call ca84 (args := [(Vp g.tb 0), (v6 t.addr)]) rfl (pair_spec hf183 t.addr h1)) ?_
      rintro _ w184 ⟨⟨r186, rfl, hr187⟩, hk185⟩
      have ka188 := (Kp.then0 ka181 hk185)
      have ks189 := (Kp.then0 ks182 hk185)
      refine ⟨ks189, ?_⟩
      refine o_one ?_
      have hf190 := (BibIs.k0 hf183 hk185)
      refine c_e rfl (e_call ca83 (args := [(Vp ((g.p 0).pb) 0), (v4 r186), (Vi (t.port)), Vt]) rfl (take2_spec (BibIs.pool hf190 0 (by omega)) (ok.pool 0 (by omega)) r186 t.port (decide ((1 : Int) = 1)))) ?_
      rintro _ w191 ⟨⟨e193, he194, hq195, hp196, rfl⟩ | ⟨t197, hq195, hp196, rfl⟩, hk192⟩
      · have hBw191 := BibIs.pool_put hf190 (k := 0) (by omega) hp196 hk192
        have ka198 := (Kp.trans ka188 hk192 (fun _ _ e => e))
        have ks199 := (Kp.trans ks189 hk192 (fun _ _ e => e))
        refine ⟨ks199, ?_⟩
        refine o_y rfl (y_move (v := (.tuple #[(t4 zeroT4), (Vi e193)])) rfl) ?_
        refine o_y rfl (y_ext rfl (v := (t4 zeroT4)) rfl) ?_
        refine o_y rfl (y_ext rfl (v := (Vi e193)) rfl) ?_
        refine o_one ?_
        have hz200 := (nl (nl (nl hk7.size hk11.size) hk20.size) hk23.size)
        have hb201 := (hk192.get (hk185.get0 hb179) (Nat.ne_of_gt (nt (nt ((BibIs.lt h _ (mem_blocks (List.mem_of_getElem? (i := 8) (rfl : g.blocks[8]? = some (g.p 0).mb))))) hz200) (Nat.le_refl _))))
        refine c_e0 rfl (e_storeV (cs' := zeroT4.cs.toArray) zeroT4.cs rfl (v := (t4 zeroT4)) rfl rfl sz34 hb201 rfl rfl rfl) ?_
        rintro _ w202 ⟨hb203, hk204⟩
        have ka205 := (Kp.fresh ka198 hk204 fun _ e => nl (nl hz200 (Nat.le_refl _)) (Nat.le_of_eq e.symm))
        have ks206 := (Kp.fresh ks199 hk204 fun _ e => nl (nl hk23.size (Nat.le_refl _)) (Nat.le_of_eq e.symm))
        refine ⟨ks206, ?_⟩
        refine o_y rfl (y_assign (v := (Vi e193)) rfl) ?_
        refine o_done (hK17 _ _ (genC [(6, (Vp w5.heap.size 0)), (8, (Vp w22.heap.size 0)), (9, (Vi e193))] ⟨g16, rfl, rfl, trivial⟩ ?_))
        clear hK17; rintro E ⟨g207, g208, g209, -⟩
        refine seq fun K210 hK210 => ?_
        refine seq fun K211 hK211 => ?_
        refine reg ?_
        refine s_y (y_move (v := (Vi e193)) g209) rfl ?_
        refine s_y (y_neq rfl rfl) rfl ?_
        refine s_nil (hK211 _ _ (genC [(6, (Vp w5.heap.size 0)), (8, (Vp w22.heap.size 0)), (30, (.bool (decide ((e193 : Int) ≠ 0))))] ⟨g207, g208, rfl, trivial⟩ ?_))
        clear hK211; rintro E ⟨g212, g213, g214, -⟩
        refine cond_d g214 (fun c215 => ?_) (fun c215 => ?_)
        · refine seq fun K216 hK216 => ?_
          refine reg ?_
          refine s_y (y_build (vs := []) (v := (.agg #[U0, U0, U0, U0, .int .i64 0])) rfl (fun _ => by kernel_rfl)) rfl ?_
          have hb217 := (hk204.get (hk192.get (hk185.get0 (hk180.get0 (hk23.get0 (hk20.get0 hb10)))) (Nat.ne_of_gt (nt (nt ((BibIs.lt h _ (mem_blocks (List.mem_of_getElem? (i := 8) (rfl : g.blocks[8]? = some (g.p 0).mb))))) hk7.size) (Nat.le_refl _)))) (Nat.ne_of_lt (nt (nt (lt_of_get hb10) (nl hk20.size hk23.size)) (Nat.le_refl _))))
          refine s_e0 (e_storeV (cs' := #[U0, U0, U0, U0, (Vi 0)]) [U0, U0, U0, U0, (Vi 0)] g212 (v := (.agg #[U0, U0, U0, U0, .int .i64 0])) rfl rfl sz34 hb217 rfl rfl rfl) ?_
          rintro _ w218 ⟨hb219, hk220⟩
          have ka221 := (Kp.fresh ka205 hk220 fun _ e => nl (nl hk7.size (Nat.le_refl _)) (Nat.le_of_eq e.symm))
          refine s_y (y_assign (v := (Vi 13)) rfl) rfl ?_
          refine s_nil (hK216 _ _ (genC [(6, (Vp w5.heap.size 0)), (7, (Vi 13))] ⟨g212, rfl, trivial⟩ ?_))
          clear hK216; rintro E ⟨g222, g223, -⟩
          refine ret (hret _ _ [(t4 (⟨(⟨0, 0, 0, 0⟩ : V4), 0⟩ : T4)), (Vi 13)] ⟨⟨_, g222, (rd_agg (vs := [U0, U0, U0, U0, (Vi 0)]) ag34 (On.now hb219) (by kernel_rfl) rfl)⟩, g223, trivial⟩ ?_)
          have hf224 := (BibIs.kp (BibIs.kp hBw191 hk204 (fun b hb => (fun e => (fun hb => Nat.lt_irrefl _ (nt (BibIs.lt h _ hb) (nl hz200 (Nat.le_refl _)))) (e ▸ hb))) (Nat.ne_of_lt (nt (nt (hT0.lt) hz200) (Nat.le_refl _)))) hk220 (fun b hb => (fun e => (fun hb => Nat.lt_irrefl _ (nt (BibIs.lt h _ hb) (nl hk7.size (Nat.le_refl _)))) (e ▸ hb))) (Nat.ne_of_lt (nt (nt (hT0.lt) hk7.size) (Nat.le_refl _))))
          exact ⟨.inl ⟨_, hr187, hq195, hf224, rfl⟩, ka221⟩
        · omega
      · have hBw191 := BibIs.pool_put hf190 (k := 0) (by omega) hp196 hk192
        have ka225 := (Kp.trans ka188 hk192 (fun _ _ e => e))
        have ks226 := (Kp.trans ks189 hk192 (fun _ _ e => e))
        refine ⟨ks226, ?_⟩
        refine o_y rfl (y_move (v := (.tuple #[(t4 t197), (Vi 0)])) rfl) ?_
        refine o_y rfl (y_ext rfl (v := (t4 t197)) rfl) ?_
        refine o_y rfl (y_ext rfl (v := (Vi 0)) rfl) ?_
        refine o_one ?_
        have hz227 := (nl (nl (nl hk7.size hk11.size) hk20.size) hk23.size)
        have hb228 := (hk192.get (hk185.get0 hb179) (Nat.ne_of_gt (nt (nt ((BibIs.lt h _ (mem_blocks (List.mem_of_getElem? (i := 8) (rfl : g.blocks[8]? = some (g.p 0).mb))))) hz227) (Nat.le_refl _))))
        refine c_e0 rfl (e_storeV (cs' := t197.cs.toArray) t197.cs rfl (v := (t4 t197)) rfl rfl sz34 hb228 rfl rfl rfl) ?_
        rintro _ w229 ⟨hb230, hk231⟩
        have ka232 := (Kp.fresh ka225 hk231 fun _ e => nl (nl hz227 (Nat.le_refl _)) (Nat.le_of_eq e.symm))
        have ks233 := (Kp.fresh ks226 hk231 fun _ e => nl (nl hk23.size (Nat.le_refl _)) (Nat.le_of_eq e.symm))
        refine ⟨ks233, ?_⟩
        refine o_y rfl (y_assign (v := (Vi 0)) rfl) ?_
        refine o_done (hK17 _ _ (genC [(6, (Vp w5.heap.size 0)), (8, (Vp w22.heap.size 0)), (9, (Vi 0))] ⟨g16, rfl, rfl, trivial⟩ ?_))
        clear hK17; rintro E ⟨g234, g235, g236, -⟩
        refine seq fun K237 hK237 => ?_
        refine seq fun K238 hK238 => ?_
        refine reg ?_
        refine s_y (y_move (v := (Vi 0)) g236) rfl ?_
        refine s_y (y_neq rfl rfl) rfl ?_
        refine s_nil (hK238 _ _ (genC [(6, (Vp w5.heap.size 0)), (8, (Vp w22.heap.size 0)), (30, Vf)] ⟨g234, g235, rfl, trivial⟩ ?_))
        clear hK238; rintro E ⟨g239, g240, g241, -⟩
        refine cond_f g241 ?_
        refine skip (hK237 _ _ (genC [(6, (Vp w5.heap.size 0)), (8, (Vp w22.heap.size 0))] ⟨g239, g240, trivial⟩ ?_))
        clear hK237; rintro E ⟨g242, g243, -⟩
        refine seq fun K244 hK244 => ?_
        refine reg ?_
        refine s_y (y_load (v := (t4 t197)) g243 (rd_agg (vs := t197.cs) ag34 (On.now hb230) (by kernel_rfl) rfl)) rfl ?_
        have hb245 := (hk231.get (hk192.get (hk185.get0 (hk180.get0 (hk23.get0 (hk20.get0 hb10)))) (Nat.ne_of_gt (nt (nt ((BibIs.lt h _ (mem_blocks (List.mem_of_getElem? (i := 8) (rfl : g.blocks[8]? = some (g.p 0).mb))))) hk7.size) (Nat.le_refl _)))) (Nat.ne_of_lt (nt (nt (lt_of_get hb10) (nl hk20.size hk23.size)) (Nat.le_refl _))))
        refine s_e0 (e_storeV (cs' := t197.cs.toArray) t197.cs g242 (v := (t4 t197)) rfl rfl sz34 hb245 rfl rfl rfl) ?_
        rintro _ w246 ⟨hb247, hk248⟩
        have ka249 := (Kp.fresh ka232 hk248 fun _ e => nl (nl hk7.size (Nat.le_refl _)) (Nat.le_of_eq e.symm))
        refine s_y (y_assign (v := (Vi 0)) rfl) rfl ?_
        refine s_nil (hK244 _ _ (genC [(6, (Vp w5.heap.size 0)), (7, (Vi 0))] ⟨g242, rfl, trivial⟩ ?_))
        clear hK244; rintro E ⟨g250, g251, -⟩
        refine ret (hret _ _ [(t4 t197), (Vi 0)] ⟨⟨_, g250, (rd_agg (vs := t197.cs) ag34 (On.now hb247) (by kernel_rfl) rfl)⟩, g251, trivial⟩ ?_)
        have hf252 := (BibIs.kp (BibIs.kp hBw191 hk231 (fun b hb => (fun e => (fun hb => Nat.lt_irrefl _ (nt (BibIs.lt h _ hb) (nl hz227 (Nat.le_refl _)))) (e ▸ hb))) (Nat.ne_of_lt (nt (nt (hT0.lt) hz227) (Nat.le_refl _)))) hk248 (fun b hb => (fun e => (fun hb => Nat.lt_irrefl _ (nt (BibIs.lt h _ hb) (nl hk7.size (Nat.le_refl _)))) (e ▸ hb))) (Nat.ne_of_lt (nt (nt (hT0.lt) hk7.size) (Nat.le_refl _))))
        exact ⟨.inr ⟨_, _, hr187, hq195, hf252, rfl⟩, ka249⟩
  · refine c_e rfl (e_alloc ze34) ?_
    rintro _ w253 ⟨rfl, hb254, hk255⟩
    have ka256 := (Kp.then0 ka21 hk255)
    have ks257 : Kp (· = (g.p 0).mb) w18 w253 := (Kp.then0 (Kp.refl _ _) hk255)
    refine ⟨ks257, ?_⟩
    refine o_one ?_
    refine c_e rfl (e_call ca51 (args := [(Vi 1)]) rfl (kind_spec 1 _)) ?_
    rintro _ w258 ⟨rfl, hk259⟩
    have ka260 := (Kp.then0 ka256 hk259)
    have ks261 := (Kp.then0 ks257 hk259)
    refine ⟨ks261, ?_⟩
    refine o_y rfl (y_idxA ao93 sz92 rfl (i := 0) rfl (by omega)) ?_
    refine o_y rfl (y_load (v := (Vp ((g.p 0).pb) 0)) rfl (rd_sc sc92 (On.kp (hk20.get0 (hk11.get0 (hk7.get0 hb0))) (blocks_ne h.nd (i := 0) (j := 8) (by decide) rfl rfl)) rfl)) ?_
    refine o_one ?_
    have hf262 := (BibIs.k0 (BibIs.k0 (BibIs.k0 (BibIs.k0 (BibIs.k0 h hk7) hk11) hk20) hk255) hk259)
    refine c_e rfl (e_call ca84 (args := [(Vp g.tb 0), (v6 t.addr)]) rfl (pair_spec hf262 t.addr h1)) ?_
    rintro _ w263 ⟨⟨r265, rfl, hr266⟩, hk264⟩
    have ka267 := (Kp.then0 ka260 hk264)
    have ks268 := (Kp.then0 ks261 hk264)
    refine ⟨ks268, ?_⟩
    refine o_one ?_
    have hf269 := (BibIs.k0 hf262 hk264)
    refine c_e rfl (e_call ca83 (args := [(Vp ((g.p 0).pb) 0), (v4 r265), (Vi (t.port)), Vt]) rfl (take2_spec (BibIs.pool hf269 0 (by omega)) (ok.pool 0 (by omega)) r265 t.port (decide ((1 : Int) = 1)))) ?_
    rintro _ w270 ⟨⟨e272, he273, hq274, hp275, rfl⟩ | ⟨t276, hq274, hp275, rfl⟩, hk271⟩
    · have hBw270 := BibIs.pool_put hf269 (k := 0) (by omega) hp275 hk271
      have ka277 := (Kp.trans ka267 hk271 (fun _ _ e => e))
      have ks278 := (Kp.trans ks268 hk271 (fun _ _ e => e))
      refine ⟨ks278, ?_⟩
      refine o_y rfl (y_move (v := (.tuple #[(t4 zeroT4), (Vi e272)])) rfl) ?_
      refine o_y rfl (y_ext rfl (v := (t4 zeroT4)) rfl) ?_
      refine o_y rfl (y_ext rfl (v := (Vi e272)) rfl) ?_
      refine o_one ?_
      have hz279 := (nl (nl hk7.size hk11.size) hk20.size)
      have hb280 := (hk271.get (hk264.get0 (hk259.get0 hb254)) (Nat.ne_of_gt (nt (nt ((BibIs.lt h _ (mem_blocks (List.mem_of_getElem? (i := 8) (rfl : g.blocks[8]? = some (g.p 0).mb))))) hz279) (Nat.le_refl _))))
      refine c_e0 rfl (e_storeV (cs' := zeroT4.cs.toArray) zeroT4.cs rfl (v := (t4 zeroT4)) rfl rfl sz34 hb280 rfl rfl rfl) ?_
      rintro _ w281 ⟨hb282, hk283⟩
      have ka284 := (Kp.fresh ka277 hk283 fun _ e => nl (nl hz279 (Nat.le_refl _)) (Nat.le_of_eq e.symm))
      have ks285 := (Kp.fresh ks278 hk283 fun _ e => nl (nl (Nat.le_refl _) (Nat.le_refl _)) (Nat.le_of_eq e.symm))
      refine ⟨ks285, ?_⟩
      refine o_y rfl (y_assign (v := (Vi e272)) rfl) ?_
      refine o_done (hK17 _ _ (genC [(6, (Vp w5.heap.size 0)), (8, (Vp w18.heap.size 0)), (9, (Vi e272))] ⟨g16, rfl, rfl, trivial⟩ ?_))
      clear hK17; rintro E ⟨g286, g287, g288, -⟩
      refine seq fun K289 hK289 => ?_
      refine seq fun K290 hK290 => ?_
      refine reg ?_
      refine s_y (y_move (v := (Vi e272)) g288) rfl ?_
      refine s_y (y_neq rfl rfl) rfl ?_
      refine s_nil (hK290 _ _ (genC [(6, (Vp w5.heap.size 0)), (8, (Vp w18.heap.size 0)), (30, (.bool (decide ((e272 : Int) ≠ 0))))] ⟨g286, g287, rfl, trivial⟩ ?_))
      clear hK290; rintro E ⟨g291, g292, g293, -⟩
      refine cond_d g293 (fun c294 => ?_) (fun c294 => ?_)
      · refine seq fun K295 hK295 => ?_
        refine reg ?_
        refine s_y (y_build (vs := []) (v := (.agg #[U0, U0, U0, U0, .int .i64 0])) rfl (fun _ => by kernel_rfl)) rfl ?_
        have hb296 := (hk283.get (hk271.get (hk264.get0 (hk259.get0 (hk255.get0 (hk20.get0 hb10)))) (Nat.ne_of_gt (nt (nt ((BibIs.lt h _ (mem_blocks (List.mem_of_getElem? (i := 8) (rfl : g.blocks[8]? = some (g.p 0).mb))))) hk7.size) (Nat.le_refl _)))) (Nat.ne_of_lt (nt (nt (lt_of_get hb10) hk20.size) (Nat.le_refl _))))
        refine s_e0 (e_storeV (cs' := #[U0, U0, U0, U0, (Vi 0)]) [U0, U0, U0, U0, (Vi 0)] g291 (v := (.agg #[U0, U0, U0, U0, .int .i64 0])) rfl rfl sz34 hb296 rfl rfl rfl) ?_
        rintro _ w297 ⟨hb298, hk299⟩
        have ka300 := (Kp.fresh ka284 hk299 fun _ e => nl (nl hk7.size (Nat.le_refl _)) (Nat.le_of_eq e.symm))
        refine s_y (y_assign (v := (Vi 13)) rfl) rfl ?_
        refine s_nil (hK295 _ _ (genC [(6, (Vp w5.heap.size 0)), (7, (Vi 13))] ⟨g291, rfl, trivial⟩ ?_))
        clear hK295; rintro E ⟨g301, g302, -⟩
        refine ret (hret _ _ [(t4 (⟨(⟨0, 0, 0, 0⟩ : V4), 0⟩ : T4)), (Vi 13)] ⟨⟨_, g301, (rd_agg (vs := [U0, U0, U0, U0, (Vi 0)]) ag34 (On.now hb298) (by kernel_rfl) rfl)⟩, g302, trivial⟩ ?_)
        have hf303 := (BibIs.kp (BibIs.kp hBw270 hk283 (fun b hb => (fun e => (fun hb => Nat.lt_irrefl _ (nt (BibIs.lt h _ hb) (nl hz279 (Nat.le_refl _)))) (e ▸ hb))) (Nat.ne_of_lt (nt (nt (hT0.lt) hz279) (Nat.le_refl _)))) hk299 (fun b hb => (fun e => (fun hb => Nat.lt_irrefl _ (nt (BibIs.lt h _ hb) (nl hk7.size (Nat.le_refl _)))) (e ▸ hb))) (Nat.ne_of_lt (nt (nt (hT0.lt) hk7.size) (Nat.le_refl _))))
        exact ⟨.inl ⟨_, hr266, hq274, hf303, rfl⟩, ka300⟩
      · omega
    · have hBw270 := BibIs.pool_put hf269 (k := 0) (by omega) hp275 hk271
      have ka304 := (Kp.trans ka267 hk271 (fun _ _ e => e))
      have ks305 := (Kp.trans ks268 hk271 (fun _ _ e => e))
      refine ⟨ks305, ?_⟩
      refine o_y rfl (y_move (v := (.tuple #[(t4 t276), (Vi 0)])) rfl) ?_
      refine o_y rfl (y_ext rfl (v := (t4 t276)) rfl) ?_
      refine o_y rfl (y_ext rfl (v := (Vi 0)) rfl) ?_
      refine o_one ?_
      have hz306 := (nl (nl hk7.size hk11.size) hk20.size)
      have hb307 := (hk271.get (hk264.get0 (hk259.get0 hb254)) (Nat.ne_of_gt (nt (nt ((BibIs.lt h _ (mem_blocks (List.mem_of_getElem? (i := 8) (rfl : g.blocks[8]? = some (g.p 0).mb))))) hz306) (Nat.le_refl _))))
      refine c_e0 rfl (e_storeV (cs' := t276.cs.toArray) t276.cs rfl (v := (t4 t276)) rfl rfl sz34 hb307 rfl rfl rfl) ?_
      rintro _ w308 ⟨hb309, hk310⟩
      have ka311 := (Kp.fresh ka304 hk310 fun _ e => nl (nl hz306 (Nat.le_refl _)) (Nat.le_of_eq e.symm))
      have ks312 := (Kp.fresh ks305 hk310 fun _ e => nl (nl (Nat.le_refl _) (Nat.le_refl _)) (Nat.le_of_eq e.symm))
      refine ⟨ks312, ?_⟩
      refine o_y rfl (y_assign (v := (Vi 0)) rfl) ?_
      refine o_done (hK17 _ _ (genC [(6, (Vp w5.heap.size 0)), (8, (Vp w18.heap.size 0)), (9, (Vi 0))] ⟨g16, rfl, rfl, trivial⟩ ?_))
      clear hK17; rintro E ⟨g313, g314, g315, -⟩
      refine seq fun K316 hK316 => ?_
      refine seq fun K317 hK317 => ?_
      refine reg ?_
      refine s_y (y_move (v := (Vi 0)) g315) rfl ?_
      refine s_y (y_neq rfl rfl) rfl ?_
      refine s_nil (hK317 _ _ (genC [(6, (Vp w5.heap.size 0)), (8, (Vp w18.heap.size 0)), (30, Vf)] ⟨g313, g314, rfl, trivial⟩ ?_))
      clear hK317; rintro E ⟨g318, g319, g320, -⟩
      refine cond_f g320 ?_
      refine skip (hK316 _ _ (genC [(6, (Vp w5.heap.size 0)), (8, (Vp w18.heap.size 0))] ⟨g318, g319, trivial⟩ ?_))
      clear hK316; rintro E ⟨g321, g322, -⟩
      refine seq fun K323 hK323 => ?_
      refine reg ?_
      refine s_y (y_load (v := (t4 t276)) g322 (rd_agg (vs := t276.cs) ag34 (On.now hb309) (by kernel_rfl) rfl)) rfl ?_
      have hb324 := (hk310.get (hk271.get (hk264.get0 (hk259.get0 (hk255.get0 (hk20.get0 hb10)))) (Nat.ne_of_gt (nt (nt ((BibIs.lt h _ (mem_blocks (List.mem_of_getElem? (i := 8) (rfl : g.blocks[8]? = some (g.p 0).mb))))) hk7.size) (Nat.le_refl _)))) (Nat.ne_of_lt (nt (nt (lt_of_get hb10) hk20.size) (Nat.le_refl _))))
      refine s_e0 (e_storeV (cs' := t276.cs.toArray) t276.cs g321 (v := (t4 t276)) rfl rfl sz34 hb324 rfl rfl rfl) ?_
      rintro _ w325 ⟨hb326, hk327⟩
      have ka328 := (Kp.fresh ka311 hk327 fun _ e => nl (nl hk7.size (Nat.le_refl _)) (Nat.le_of_eq e.symm))
      refine s_y (y_assign (v := (Vi 0)) rfl) rfl ?_
      refine s_nil (hK323 _ _ (genC [(6, (Vp w5.heap.size 0)), (7, (Vi 0))] ⟨g321, rfl, trivial⟩ ?_))
      clear hK323; rintro E ⟨g329, g330, -⟩
      refine ret (hret _ _ [(t4 t276), (Vi 0)] ⟨⟨_, g329, (rd_agg (vs := t276.cs) ag34 (On.now hb326) (by kernel_rfl) rfl)⟩, g330, trivial⟩ ?_)
      have hf331 := (BibIs.kp (BibIs.kp hBw270 hk310 (fun b hb => (fun e => (fun hb => Nat.lt_irrefl _ (nt (BibIs.lt h _ hb) (nl hz306 (Nat.le_refl _)))) (e ▸ hb))) (Nat.ne_of_lt (nt (nt (hT0.lt) hz306) (Nat.le_refl _)))) hk327 (fun b hb => (fun e => (fun hb => Nat.lt_irrefl _ (nt (BibIs.lt h _ hb) (nl hk7.size (Nat.le_refl _)))) (e ▸ hb))) (Nat.ne_of_lt (nt (nt (hT0.lt) hk7.size) (Nat.le_refl _))))
      exact ⟨.inr ⟨_, _, hr266, hq274, hf331, rfl⟩, ka328⟩

theorem take_1 {g : BibG} {st : BibS} {w : World} (ok : BibOk g) (h : BibIs g st w) (t : T6) (h1 : ∀ q ∈ st.l, 1 ≤ q.1.id)  : Rets Tryd.prog 47 #[(.pointer (some ⟨g.tb, 0, none⟩)), (.int .i64 6), (t6 t)] w fun v w' => ((∃ a, PairR g st.l t.addr a ∧ TakeQ (g.p 1) (st.h 1) a t.port (decide ((6 : Int) = 1)) none ∧ BibIs g { st with h := setH st.h 1 (st.h 1) } w' ∧ v = .tuple #[t4 zeroT4, .int .i64 13]) ∨ (∃ a r, PairR g st.l t.addr a ∧ TakeQ (g.p 1) (st.h 1) a t.port (decide ((6 : Int) = 1)) (some r) ∧ BibIs g { st with h := setH st.h 1 (st.h 1 ++ [(r, false)]) } w' ∧ v = .tuple #[t4 r, .int .i64 0])) ∧ Kp (· = (g.p 1).mb) w w' := by
  refine enter Tryd.func47 rfl Tryd.ntmps47 rfl fun Q hret hend E hE => ?_
  have g1 : E 0 = (Vp g.tb 0) := hE 0
  have g2 : E 1 = (Vi 6) := hE 1
  have g3 : E 2 = (t6 t) := hE 2
  clear hE
  have hb0 := h.blk; have hm0 := h.map; have hT0 := h.tb; have hn1 : g.tb ≠ g.mb := blk_ne_map h.blk h.map
  refine seq fun K4 hK4 => ?_
  refine reg ?_
  refine s_e (e_box (v := (t6 t)) g3) rfl ?_
  rintro _ w5 ⟨rfl, hb6, hk7⟩
  have ka8 : Kp (· = (g.p 1).mb) w w5 := (Kp.then0 (Kp.refl _ _) hk7)
  refine s_e (e_alloc ze34) rfl ?_
  rintro _ w9 ⟨rfl, hb10, hk11⟩
  have ka12 := (Kp.then0 ka8 hk11)
  refine s_y (y_assign (v := (Vi 0)) rfl) rfl ?_
  refine s_nil (hK4 _ _ (genC [(0, (Vp g.tb 0)), (1, (Vi 6)), (5, (Vp w.heap.size 0)), (6, (Vp w5.heap.size 0))] ⟨g1, g2, rfl, rfl, trivial⟩ ?_))
  clear hK4; rintro E ⟨g13, g14, g15, g16, -⟩
  refine seq fun K17 hK17 => ?_
  refine regD (· = (g.p 1).mb) (.take 0 (.take 1 (.take 3 (.take 4 (.take 7 (.take 8 (.take 9 (.take 11 (.take 12 (.take 13 (.take 14 (.two 2 (.take 5 (.take 6 (.two 10 (.two 15 (.take 16 (.take 17 (.take 18 (.one 19 (.one 20 (.take 21 .done)))))) 19 (.one 15 (.take 16 (.take 17 (.take 18 (.one 20 (.take 21 .done))))))) 19 (.one 10 (.one 15 (.take 16 (.take 17 (.take 18 (.one 20 (.take 21 .done)))))))))) 19 (.one 2 (.take 5 (.take 6 (.one 10 (.one 15 (.take 16 (.take 17 (.take 18 (.one 20 (.take 21 .done)))))))))))))))))))))) mixed (by kernel_rfl) fun w18 hh19 hk20 => ?_
  have ka21 := (Kp.then0 ka12 hk20)
  refine o_y rfl (y_move (v := (Vp g.tb 0)) g13) ?_
  refine o_y rfl (y_move (v := (Vi 6)) g14) ?_
  refine o_y rfl (y_nil rfl) ?_
  refine o_y rfl (y_fld fo95_6 rfl) ?_
  refine o_y rfl (y_move (v := (Vp g.tb 0)) g13) ?_
  refine o_y rfl (y_fld fo32_0 g15) ?_
  refine o_y rfl (y_load (v := (v6 t.addr)) rfl (rd_agg (vs := [(u8 t.addr.b0), (u8 t.addr.b1), (u8 t.addr.b2), (u8 t.addr.b3), (u8 t.addr.b4), (u8 t.addr.b5), (u8 t.addr.b6), (u8 t.addr.b7), (u8 t.addr.b8), (u8 t.addr.b9), (u8 t.addr.b10), (u8 t.addr.b11), (u8 t.addr.b12), (u8 t.addr.b13), (u8 t.addr.b14), (u8 t.addr.b15)]) ag30 (On.kp (hk20.get0 (hk11.get0 hb6)) (Nat.ne_of_gt (nt ((BibIs.lt h _ (mem_blocks (List.mem_of_getElem? (i := 11) (rfl : g.blocks[11]? = some (g.p 1).mb))))) (Nat.le_refl _)))) (by kernel_rfl) rfl)) ?_
  refine o_y rfl (y_fld fo32_1 g15) ?_
  refine o_y rfl (y_load (v := (Vi (t.port))) rfl (rd_sc sc3 (On.kp (hk20.get0 (hk11.get0 hb6)) (Nat.ne_of_gt (nt ((BibIs.lt h _ (mem_blocks (List.mem_of_getElem? (i := 11) (rfl : g.blocks[11]? = some (g.p 1).mb))))) (Nat.le_refl _)))) rfl)) ?_
  refine o_y rfl (y_move (v := (Vi 6)) g14) ?_
  refine o_y rfl (y_eql rfl rfl) ?_
  refine o_two ?_ ?_
  · refine c_e rfl (e_call ca51 (args := [(Vi 6)]) rfl (kind_spec 6 _)) ?_
    rintro _ w22 ⟨rfl, hk23⟩
    have ka24 := (Kp.then0 ka21 hk23)
    have ks25 : Kp (· = (g.p 1).mb) w18 w22 := (Kp.then0 (Kp.refl _ _) hk23)
    refine ⟨ks25, ?_⟩
    refine o_y rfl (y_idxA ao93 sz92 rfl (i := 1) rfl (by omega)) ?_
    refine o_y rfl (y_load (v := (Vp ((g.p 1).pb) 0)) rfl (rd_sc sc92 (On.kp (hk20.get0 (hk11.get0 (hk7.get0 hb0))) (blocks_ne h.nd (i := 0) (j := 11) (by decide) rfl rfl)) rfl)) ?_
    refine o_two ?_ ?_
    · have hf26 := (BibIs.k0 (BibIs.k0 (BibIs.k0 (BibIs.k0 h hk7) hk11) hk20) hk23)
      refine c_e rfl (e_call ca84 (args := [(Vp g.tb 0), (v6 t.addr)]) rfl (pair_spec hf26 t.addr h1)) ?_
      rintro _ w27 ⟨⟨r29, rfl, hr30⟩, hk28⟩
      have ka31 := (Kp.then0 ka24 hk28)
      have ks32 := (Kp.then0 ks25 hk28)
      refine ⟨ks32, ?_⟩
      refine o_two ?_ ?_
      · have hf33 := (BibIs.k0 hf26 hk28)
        refine c_e rfl (e_call ca83 (args := [(Vp ((g.p 1).pb) 0), (v4 r29), (Vi (t.port)), Vf]) rfl (take2_spec (BibIs.pool hf33 1 (by omega)) (ok.pool 1 (by omega)) r29 t.port (decide ((6 : Int) = 1)))) ?_
        rintro _ w34 ⟨⟨e36, he37, hq38, hp39, rfl⟩ | ⟨t40, hq38, hp39, rfl⟩, hk35⟩
        · have hBw34 := BibIs.pool_put hf33 (k := 1) (by omega) hp39 hk35
          have ka41 := (Kp.trans ka31 hk35 (fun _ _ e => e))
          have ks42 := (Kp.trans ks32 hk35 (fun _ _ e => e))
          refine ⟨ks42, ?_⟩
          refine o_y rfl (y_move (v := (.tuple #[(t4 zeroT4), (Vi e36)])) rfl) ?_
          refine o_y rfl (y_ext rfl (v := (t4 zeroT4)) rfl) ?_
          refine o_y rfl (y_ext rfl (v := (Vi e36)) rfl) ?_
          refine o_one ?_
          refine c_e rfl (e_alloc ze34) ?_
          rintro _ w43 ⟨rfl, hb44, hk45⟩
          have ka46 := (Kp.then0 ka41 hk45)
          have ks47 := (Kp.then0 ks42 hk45)
          refine ⟨ks47, ?_⟩
          refine o_one ?_
          refine c_e0 rfl (e_storeV (cs' := zeroT4.cs.toArray) zeroT4.cs rfl (v := (t4 zeroT4)) rfl rfl sz34 hb44 rfl rfl rfl) ?_
          rintro _ w48 ⟨hb49, hk50⟩
          have hz52 := (nl (nl (nl (nl (nl hk7.size hk11.size) hk20.size) hk23.size) hk28.size) hk35.size)
          have ka51 := (Kp.fresh ka46 hk50 fun _ e => nl (nl hz52 (Nat.le_refl _)) (Nat.le_of_eq e.symm))
          have hz54 := (nl (nl hk23.size hk28.size) hk35.size)
          have ks53 := (Kp.fresh ks47 hk50 fun _ e => nl (nl hz54 (Nat.le_refl _)) (Nat.le_of_eq e.symm))
          refine ⟨ks53, ?_⟩
          refine o_y rfl (y_assign (v := (Vi e36)) rfl) ?_
          refine o_done (hK17 _ _ (genC [(6, (Vp w5.heap.size 0)), (8, (Vp w34.heap.size 0)), (9, (Vi e36))] ⟨g16, rfl, rfl, trivial⟩ ?_))
          clear hK17; rintro E ⟨g55, g56, g57, -⟩
          refine seq fun K58 hK58 => ?_
          refine seq fun K59 hK59 => ?_
          refine reg ?_
          refine s_y (y_move (v := (Vi e36)) g57) rfl ?_
          refine s_y (y_neq rfl rfl) rfl ?_
          refine s_nil (hK59 _ _ (genC [(6, (Vp w5.heap.size 0)), (8, (Vp w34.heap.size 0)), (30, (.bool (decide ((e36 : Int) ≠ 0))))] ⟨g55, g56, rfl, trivial⟩ ?_))
          clear hK59; rintro E ⟨g60, g61, g62, -⟩
          refine cond_d g62 (fun c63 => ?_) (fun c63 => ?_)
          · refine seq fun K64 hK64 => ?_
            refine reg ?_
            refine s_y (y_build (vs := []) (v := (.agg #[U0, U0, U0, U0, .int .i64 0])) rfl (fun _ => by kernel_rfl)) rfl ?_
            have hz65 := (nl (nl (nl hk20.size hk23.size) hk28.size) hk35.size)
            have hb66 := (hk50.get (hk45.get0 (hk35.get (hk28.get0 (hk23.get0 (hk20.get0 hb10))) (Nat.ne_of_gt (nt (nt ((BibIs.lt h _ (mem_blocks (List.mem_of_getElem? (i := 11) (rfl : g.blocks[11]? = some (g.p 1).mb))))) hk7.size) (Nat.le_refl _))))) (Nat.ne_of_lt (nt (nt (lt_of_get hb10) hz65) (Nat.le_refl _))))
            refine s_e0 (e_storeV (cs' := #[U0, U0, U0, U0, (Vi 0)]) [U0, U0, U0, U0, (Vi 0)] g60 (v := (.agg #[U0, U0, U0, U0, .int .i64 0])) rfl rfl sz34 hb66 rfl rfl rfl) ?_
            rintro _ w67 ⟨hb68, hk69⟩
            have ka70 := (Kp.fresh ka51 hk69 fun _ e => nl (nl hk7.size (Nat.le_refl _)) (Nat.le_of_eq e.symm))
            refine s_y (y_assign (v := (Vi 13)) rfl) rfl ?_
            refine s_nil (hK64 _ _ (genC [(6, (Vp w5.heap.size 0)), (7, (Vi 13))] ⟨g60, rfl, trivial⟩ ?_))
            clear hK64; rintro E ⟨g71, g72, -⟩
            refine ret (hret _ _ [(t4 (⟨(⟨0, 0, 0, 0⟩ : V4), 0⟩ : T4)), (Vi 13)] ⟨⟨_, g71, (rd_agg (vs := [U0, U0, U0, U0, (Vi 0)]) ag34 (On.now hb68) (by kernel_rfl) rfl)⟩, g72, trivial⟩ ?_)
            have hf73 := (BibIs.kp (BibIs.kp (BibIs.k0 hBw34 hk45) hk50 (fun b hb => (fun e => (fun hb => Nat.lt_irrefl _ (nt (BibIs.lt h _ hb) (nl hz52 (Nat.le_refl _)))) (e ▸ hb))) (Nat.ne_of_lt (nt (nt (hT0.lt) hz52) (Nat.le_refl _)))) hk69 (fun b hb => (fun e => (fun hb => Nat.lt_irrefl _ (nt (BibIs.lt h _ hb) (nl hk7.size (Nat.le_refl _)))) (e ▸ hb))) (Nat.ne_of_lt (nt (nt (hT0.lt) hk7.size) (Nat.le_refl _))))
            exact ⟨.inl ⟨_, hr30, hq38, hf73, rfl⟩, ka70⟩
          · omega
        · have hBw34 := BibIs.pool_put hf33 (k := 1) (by omega) hp39 hk35
          have ka74 := (Kp.trans ka31 hk35 (fun _ _ e => e))
          have ks75 := (Kp.trans ks32 hk35 (fun _ _ e => e))
          refine ⟨ks75, ?_⟩
          refine o_y rfl (y_move (v := (.tuple #[(t4 t40), (Vi 0)])) rfl) ?_
          refine o_y rfl (y_ext rfl (v := (t4 t40)) rfl) ?_
          refine o_y rfl (y_ext rfl (v := (Vi 0)) rfl) ?_
          refine o_one ?_
          refine c_e rfl (e_alloc ze34) ?_
          rintro _ w76 ⟨rfl, hb77, hk78⟩
          have ka79 := (Kp.then0 ka74 hk78)
          have ks80 := (Kp.then0 ks75 hk78)
          refine ⟨ks80, ?_⟩
          refine o_one ?_
          refine c_e0 rfl (e_storeV (cs' := t40.cs.toArray) t40.cs rfl (v := (t4 t40)) rfl rfl sz34 hb77 rfl rfl rfl) ?_
          rintro _ w81 ⟨hb82, hk83⟩
          have hz85 := (nl (nl (nl (nl (nl hk7.size hk11.size) hk20.size) hk23.size) hk28.size) hk35.size)
          have ka84 := (Kp.fresh ka79 hk83 fun _ e => nl (nl hz85 (Nat.le_refl _)) (Nat.le_of_eq e.symm))
          have hz87 := (nl (nl hk23.size hk28.size) hk35.size)
          have ks86 := (Kp.fresh ks80 hk83 fun _ e => nl (nl hz87 (Nat.le_refl _)) (Nat.le_of_eq e.symm))
          refine ⟨ks86, ?_⟩
          refine o_y rfl (y_assign (v := (Vi 0)) rfl) ?_
          refine o_done (hK17 _ _ (genC [(6, (Vp w5.heap.size 0)), (8, (Vp w34.heap.size 0)), (9, (Vi 0))] ⟨g16, rfl, rfl, trivial⟩ ?_))
          clear hK17; rintro E ⟨g88, g89, g90, -⟩
          refine seq fun K91 hK91 => ?_
          refine seq fun K92 hK92 => ?_
          refine reg ?_
          refine s_y (y_move (v := (Vi 0)) g90) rfl ?_
          refine s_y (y_neq rfl rfl) rfl ?_
          refine s_nil (hK92 _ _ (genC [(6, (Vp w5.heap.size 0)), (8, (Vp w34.heap.size 0)), (30, Vf)] ⟨g88, g89, rfl, trivial⟩ ?_))
          clear hK92; rintro E ⟨g93, g94, g95, -⟩
          refine cond_f g95 ?_
          refine skip (hK91 _ _ (genC [(6, (Vp w5.heap.size 0)), (8, (Vp w34.heap.size 0))] ⟨g93, g94, trivial⟩ ?_))
          clear hK91; rintro E ⟨g96, g97, -⟩
          refine seq fun K98 hK98 => ?_
          refine reg ?_
          refine s_y (y_load (v := (t4 t40)) g97 (rd_agg (vs := t40.cs) ag34 (On.now hb82) (by kernel_rfl) rfl)) rfl ?_
          have hz99 := (nl (nl (nl hk20.size hk23.size) hk28.size) hk35.size)
          have hb100 := (hk83.get (hk78.get0 (hk35.get (hk28.get0 (hk23.get0 (hk20.get0 hb10))) (Nat.ne_of_gt (nt (nt ((BibIs.lt h _ (mem_blocks (List.mem_of_getElem? (i := 11) (rfl : g.blocks[11]? = some (g.p 1).mb))))) hk7.size) (Nat.le_refl _))))) (Nat.ne_of_lt (nt (nt (lt_of_get hb10) hz99) (Nat.le_refl _))))
          refine s_e0 (e_storeV (cs' := t40.cs.toArray) t40.cs g96 (v := (t4 t40)) rfl rfl sz34 hb100 rfl rfl rfl) ?_
          rintro _ w101 ⟨hb102, hk103⟩
          have ka104 := (Kp.fresh ka84 hk103 fun _ e => nl (nl hk7.size (Nat.le_refl _)) (Nat.le_of_eq e.symm))
          refine s_y (y_assign (v := (Vi 0)) rfl) rfl ?_
          refine s_nil (hK98 _ _ (genC [(6, (Vp w5.heap.size 0)), (7, (Vi 0))] ⟨g96, rfl, trivial⟩ ?_))
          clear hK98; rintro E ⟨g105, g106, -⟩
          refine ret (hret _ _ [(t4 t40), (Vi 0)] ⟨⟨_, g105, (rd_agg (vs := t40.cs) ag34 (On.now hb102) (by kernel_rfl) rfl)⟩, g106, trivial⟩ ?_)
          have hf107 := (BibIs.kp (BibIs.kp (BibIs.k0 hBw34 hk78) hk83 (fun b hb => (fun e => (fun hb => Nat.lt_irrefl _ (nt (BibIs.lt h _ hb) (nl hz85 (Nat.le_refl _)))) (e ▸ hb))) (Nat.ne_of_lt (nt (nt (hT0.lt) hz85) (Nat.le_refl _)))) hk103 (fun b hb => (fun e => (fun hb => Nat.lt_irrefl _ (nt (BibIs.lt h _ hb) (nl hk7.size (Nat.le_refl _)))) (e ▸ hb))) (Nat.ne_of_lt (nt (nt (hT0.lt) hk7.size) (Nat.le_refl _))))
          exact ⟨.inr ⟨_, _, hr30, hq38, hf107, rfl⟩, ka104⟩
      · refine c_e rfl (e_alloc ze34) ?_
        rintro _ w108 ⟨rfl, hb109, hk110⟩
        have ka111 := (Kp.then0 ka31 hk110)
        have ks112 := (Kp.then0 ks32 hk110)
        refine ⟨ks112, ?_⟩
        refine o_one ?_
        have hf113 := (BibIs.k0 (BibIs.k0 hf26 hk28) hk110)
        refine c_e rfl (e_call ca83 (args := [(Vp ((g.p 1).pb) 0), (v4 r29), (Vi (t.port)), Vf]) rfl (take2_spec (BibIs.pool hf113 1 (by omega)) (ok.pool 1 (by omega)) r29 t.port (decide ((6 : Int) = 1)))) ?_
        rintro _ w114 ⟨⟨e116, he117, hq118, hp119, rfl⟩ | ⟨t120, hq118, hp119, rfl⟩, hk115⟩
        · have hBw114 := BibIs.pool_put hf113 (k := 1) (by omega) hp119 hk115
          have ka121 := (Kp.trans ka111 hk115 (fun _ _ e => e))
          have ks122 := (Kp.trans ks112 hk115 (fun _ _ e => e))
          refine ⟨ks122, ?_⟩
          refine o_y rfl (y_move (v := (.tuple #[(t4 zeroT4), (Vi e116)])) rfl) ?_
          refine o_y rfl (y_ext rfl (v := (t4 zeroT4)) rfl) ?_
          refine o_y rfl (y_ext rfl (v := (Vi e116)) rfl) ?_
          refine o_one ?_
          have hz123 := (nl (nl (nl (nl hk7.size hk11.size) hk20.size) hk23.size) hk28.size)
          have hb124 := (hk115.get hb109 (Nat.ne_of_gt (nt (nt ((BibIs.lt h _ (mem_blocks (List.mem_of_getElem? (i := 11) (rfl : g.blocks[11]? = some (g.p 1).mb))))) hz123) (Nat.le_refl _))))
          refine c_e0 rfl (e_storeV (cs' := zeroT4.cs.toArray) zeroT4.cs rfl (v := (t4 zeroT4)) rfl rfl sz34 hb124 rfl rfl rfl) ?_
          rintro _ w125 ⟨hb126, hk127⟩
          have ka128 := (Kp.fresh ka121 hk127 fun _ e => nl (nl hz123 (Nat.le_refl _)) (Nat.le_of_eq e.symm))
          have ks129 := (Kp.fresh ks122 hk127 fun _ e => nl (nl (nl hk23.size hk28.size) (Nat.le_refl _)) (Nat.le_of_eq e.symm))
          refine ⟨ks129, ?_⟩
          refine o_y rfl (y_assign (v := (Vi e116)) rfl) ?_
          refine o_done (hK17 _ _ (genC [(6, (Vp w5.heap.size 0)), (8, (Vp w27.heap.size 0)), (9, (Vi e116))] ⟨g16, rfl, rfl, trivial⟩ ?_))
          clear hK17; rintro E ⟨g130, g131, g132, -⟩
          refine seq fun K133 hK133 => ?_
          refine seq fun K134 hK134 => ?_
          refine reg ?_
          refine s_y (y_move (v := (Vi e116)) g132) rfl ?_
          refine s_y (y_neq rfl rfl) rfl ?_
          refine s_nil (hK134 _ _ (genC [(6, (Vp w5.heap.size 0)), (8, (Vp w27.heap.size 0)), (30, (.bool (decide ((e116 : Int) ≠ 0))))] ⟨g130, g131, rfl, trivial⟩ ?_))
          clear hK134; rintro E ⟨g135, g136, g137, -⟩
          refine cond_d g137 (fun c138 => ?_) (fun c138 => ?_)
          · refine seq fun K139 hK139 => ?_
            refine reg ?_
            refine s_y (y_build (vs := []) (v := (.agg #[U0, U0, U0, U0, .int .i64 0])) rfl (fun _ => by kernel_rfl)) rfl ?_
            have hz140 := (nl (nl hk20.size hk23.size) hk28.size)
            have hb141 := (hk127.get (hk115.get (hk110.get0 (hk28.get0 (hk23.get0 (hk20.get0 hb10)))) (Nat.ne_of_gt (nt (nt ((BibIs.lt h _ (mem_blocks (List.mem_of_getElem? (i := 11) (rfl : g.blocks[11]? = some (g.p 1).mb))))) hk7.size) (Nat.le_refl _)))) (Nat.ne_of_lt (nt (nt (lt_of_get hb10) hz140) (Nat.le_refl _))))
            refine s_e0 (e_storeV (cs' := #[U0, U0, U0, U0, (Vi 0)]) [U0, U0, U0, U0, (Vi 0)] g135 (v := (.agg #[U0, U0, U0, U0, .int .i64 0])) rfl rfl sz34 hb141 rfl rfl rfl) ?_
            rintro _ w142 ⟨hb143, hk144⟩
            have ka145 := (Kp.fresh ka128 hk144 fun _ e => nl (nl hk7.size (Nat.le_refl _)) (Nat.le_of_eq e.symm))
            refine s_y (y_assign (v := (Vi 13)) rfl) rfl ?_
            refine s_nil (hK139 _ _ (genC [(6, (Vp w5.heap.size 0)), (7, (Vi 13))] ⟨g135, rfl, trivial⟩ ?_))
            clear hK139; rintro E ⟨g146, g147, -⟩
            refine ret (hret _ _ [(t4 (⟨(⟨0, 0, 0, 0⟩ : V4), 0⟩ : T4)), (Vi 13)] ⟨⟨_, g146, (rd_agg (vs := [U0, U0, U0, U0, (Vi 0)]) ag34 (On.now hb143) (by kernel_rfl) rfl)⟩, g147, trivial⟩ ?_)
            have hf148 := (BibIs.kp (BibIs.kp hBw114 hk127 (fun b hb => (fun e => (fun hb => Nat.lt_irrefl _ (nt (BibIs.lt h _ hb) (nl hz123 (Nat.le_refl _)))) (e ▸ hb))) (Nat.ne_of_lt (nt (nt (hT0.lt) hz123) (Nat.le_refl _)))) hk144 (fun b hb => (fun e => (fun hb => Nat.lt_irrefl _ (nt (BibIs.lt h _ hb) (nl hk7.size (Nat.le_refl _)))) (e ▸ hb))) (Nat.ne_of_lt (nt (nt (hT0.lt) hk7.size) (Nat.le_refl _))))
            exact ⟨.inl ⟨_, hr30, hq118, hf148, rfl⟩, ka145⟩
          · omega
        · have hBw114 := BibIs.pool_put hf113 (k := 1) (by omega) hp119 hk115
          have ka149 := (Kp.trans ka111 hk115 (fun _ _ e => e))
          have ks150 := (Kp.trans ks112 hk115 (fun _ _ e => e))
          refine ⟨ks150, ?_⟩
          refine o_y rfl (y_move (v := (.tuple #[(t4 t120), (Vi 0)])) rfl) ?_
          refine o_y rfl (y_ext rfl (v := (t4 t120)) rfl) ?_
          refine o_y rfl (y_ext rfl (v := (Vi 0)) rfl) ?_
          refine o_one ?_
          have hz151 := (nl (nl (nl (nl hk7.size hk11.size) hk20.size) hk23.size) hk28.size)
          have hb152 := (hk115.get hb109 (Nat.ne_of_gt (nt (nt ((BibIs.lt h _ (mem_blocks (List.mem_of_getElem? (i := 11) (rfl : g.blocks[11]? = some (g.p 1).mb))))) hz151) (Nat.le_refl _))))
          refine c_e0 rfl (e_storeV (cs' := t120.cs.toArray) t120.cs rfl (v := (t4 t120)) rfl rfl sz34 hb152 rfl rfl rfl) ?_
          rintro _ w153 ⟨hb154, hk155⟩
          have ka156 := (Kp.fresh ka149 hk155 fun _ e => nl (nl hz151 (Nat.le_refl _)) (Nat.le_of_eq e.symm))
          have ks157 := (Kp.fresh ks150 hk155 fun _ e => nl (nl (nl hk23.size hk28.size) (Nat.le_refl _)) (Nat.le_of_eq e.symm))
          refine ⟨ks157, ?_⟩
          refine o_y rfl (y_assign (v := (Vi 0)) rfl) ?_
          refine o_done (hK17 _ _ (genC [(6, (Vp w5.heap.size 0)), (8, (Vp w27.heap.size 0)), (9, (Vi 0))] ⟨g16, rfl, rfl, trivial⟩ ?_))
          clear hK17; rintro E ⟨g158, g159, g160, -⟩
          refine seq fun K161 hK161 => ?_
          refine seq fun K162 hK162 => ?_
          refine reg ?_
          refine s_y (y_move (v := (Vi 0)) g160) rfl ?_
          refine s_y (y_neq rfl rfl) rfl ?_
          refine s_nil (hK162 _ _ (genC [(6, (Vp w5.heap.size 0)), (8, (Vp w27.heap.size 0)), (30, Vf)] ⟨g158, g159, rfl, trivial⟩ ?_))
          clear hK162; rintro E ⟨g163, g164, g165, -⟩
          refine cond_f g165 ?_
          refine skip (hK161 _ _ (genC [(6, (Vp w5.heap.size 0)), (8, (Vp w27.heap.size 0))] ⟨g163, g164, trivial⟩ ?_))
          clear hK161; rintro E ⟨g166, g167, -⟩
          refine seq fun K168 hK168 => ?_
          refine reg ?_
          refine s_y (y_load (v := (t4 t120)) g167 (rd_agg (vs := t120.cs) ag34 (On.now hb154) (by kernel_rfl) rfl)) rfl ?_
          have hz169 := (nl (nl hk20.size hk23.size) hk28.size)
          have hb170 := (hk155.get (hk115.get (hk110.get0 (hk28.get0 (hk23.get0 (hk20.get0 hb10)))) (Nat.ne_of_gt (nt (nt ((BibIs.lt h _ (mem_blocks (List.mem_of_getElem? (i := 11) (rfl : g.blocks[11]? = some (g.p 1).mb))))) hk7.size) (Nat.le_refl _)))) (Nat.ne_of_lt (nt (nt (lt_of_get hb10) hz169) (Nat.le_refl _))))
          refine s_e0 (e_storeV (cs' := t120.cs.toArray) t120.cs g166 (v := (t4 t120)) rfl rfl sz34 hb170 rfl rfl rfl) ?_
          rintro _ w171 ⟨hb172, hk173⟩
          have ka174 := (Kp.fresh ka156 hk173 fun _ e => nl (nl hk7.size (Nat.le_refl _)) (Nat.le_of_eq e.symm))
          refine s_y (y_assign (v := (Vi 0)) rfl) rfl ?_
          refine s_nil (hK168 _ _ (genC [(6, (Vp w5.heap.size 0)), (7, (Vi 0))] ⟨g166, rfl, trivial⟩ ?_))
          clear hK168; rintro E ⟨g175, g176, -⟩
          refine ret (hret _ _ [(t4 t120), (Vi 0)] ⟨⟨_, g175, (rd_agg (vs := t120.cs) ag34 (On.now hb172) (by kernel_rfl) rfl)⟩, g176, trivial⟩ ?_)
          have hf177 := (BibIs.kp (BibIs.kp hBw114 hk155 (fun b hb => (fun e => (fun hb => Nat.lt_irrefl _ (nt (BibIs.lt h _ hb) (nl hz151 (Nat.le_refl _)))) (e ▸ hb))) (Nat.ne_of_lt (nt (nt (hT0.lt) hz151) (Nat.le_refl _)))) hk173 (fun b hb => (fun e => (fun hb => Nat.lt_irrefl _ (nt (BibIs.lt h _ hb) (nl hk7.size (Nat.le_refl _)))) (e ▸ hb))) (Nat.ne_of_lt (nt (nt (hT0.lt) hk7.size) (Nat.le_refl _))))
          exact ⟨.inr ⟨_, _, hr30, hq118, hf177, rfl⟩, ka174⟩
    · refine c_e rfl (e_alloc ze34) ?_
      rintro _ w178 ⟨rfl, hb179, hk180⟩
      have ka181 := (Kp.then0 ka24 hk180)
      have ks182 := (Kp.then0 ks25 hk180)
      refine ⟨ks182, ?_⟩
      refine o_one ?_
      have hf183 := (BibIs.k0 (BibIs.k0 (BibIs.k0 (BibIs.k0 (BibIs.k0 h hk7) hk11) hk20) hk23) hk180)
      refine c_e rfl (e_call ca84 (args := [(Vp g.tb 0), (v6 t.addr)]) rfl (pair_spec hf183 t.addr h1)) ?_
      rintro _ w184 ⟨⟨r186, rfl, hr187⟩, hk185⟩
      have ka188 := (Kp.then0 ka181 hk185)
      have ks189 := (Kp.then0 ks182 hk185)
      refine ⟨ks189, ?_⟩
      refine o_one ?_
      have hf190 := (BibIs.k0 hf183 hk185)
      refine c_e rfl (e_call ca83 (args := [(Vp ((g.p 1).pb) 0), (v4 r186), (Vi (t.port)), Vf]) rfl (take2_spec (BibIs.pool hf190 1 (by omega)) (ok.pool 1 (by omega)) r186 t.port (decide ((6 : Int) = 1)))) ?_
      rintro _ w191 ⟨⟨e193, he194, hq195, hp196, rfl⟩ | ⟨t197, hq195, hp196, rfl⟩, hk192⟩
      · have hBw191 := BibIs.pool_put hf190 (k := 1) (by omega) hp196 hk192
        have ka198 := (Kp.trans ka188 hk192 (fun _ _ e => e))
        have ks199 := (Kp.trans ks189 hk192 (fun _ _ e => e))
        refine ⟨ks199, ?_⟩
        refine o_y rfl (y_move (v := (.tuple #[(t4 zeroT4), (Vi e193)])) rfl) ?_
        refine o_y rfl (y_ext rfl (v := (t4 zeroT4)) rfl) ?_
        refine o_y rfl (y_ext rfl (v := (Vi e193)) rfl) ?_
        refine o_one ?_
        have hz200 := (nl (nl (nl hk7.size hk11.size) hk20.size) hk23.size)
        have hb201 := (hk192.get (hk185.get0 hb179) (Nat.ne_of_gt (nt (nt ((BibIs.lt h _ (mem_blocks (List.mem_of_getElem? (i := 11) (rfl : g.blocks[11]? = some (g.p 1).mb))))) hz200) (Nat.le_refl _))))
        refine c_e0 rfl (e_storeV (cs' := zeroT4.cs.toArray) zeroT4.cs rfl (v := (t4 zeroT4)) rfl rfl sz34 hb201 rfl rfl rfl) ?_
        rintro _ w202 ⟨hb203, hk204⟩
        have ka205 := (Kp.fresh ka198 hk204 fun _ e => nl (nl hz200 (Nat.le_refl _)) (Nat.le_of_eq e.symm))
        have ks206 := (Kp.fresh ks199 hk204 fun _ e => nl (nl hk23.size (Nat.le_refl _)) (Nat.le_of_eq e.symm))
        refine ⟨ks206, ?_⟩
        refine o_y rfl (y_assign (v := (Vi e193)) rfl) ?_
        refine o_done (hK17 _ _ (genC [(6, (Vp w5.heap.size 0)), (8, (Vp w22.heap.size 0)), (9, (Vi e193))] ⟨g16, rfl, rfl, trivial⟩ ?_))
        clear hK17; rintro E ⟨g207, g208, g209, -⟩
        refine seq fun K210 hK210 => ?_
        refine seq fun K211 hK211 => ?_
        refine reg ?_
        refine s_y (y_move (v := (Vi e193)) g209) rfl ?_
        refine s_y (y_neq rfl rfl) rfl ?_
        refine s_nil (hK211 _ _ (genC [(6, (Vp w5.heap.size 0)), (8, (Vp w22.heap.size 0)), (30, (.bool (decide ((e193 : Int) ≠ 0))))] ⟨g207, g208, rfl, trivial⟩ ?_))
        clear hK211; rintro E ⟨g212, g213, g214, -⟩
        refine cond_d g214 (fun c215 => ?_) (fun c215 => ?_)
        · refine seq fun K216 hK216 => ?_
          refine reg ?_
          refine s_y (y_build (vs := []) (v := (.agg #[U0, U0, U0, U0, .int .i64 0])) rfl (fun _ => by kernel_rfl)) rfl ?_
          have hb217 := (hk204.get (hk192.get (hk185.get0 (hk180.get0 (hk23.get0 (hk20.get0 hb10)))) (Nat.ne_of_gt (nt (nt ((BibIs.lt h _ (mem_blocks (List.mem_of_getElem? (i := 11) (rfl : g.blocks[11]? = some (g.p 1).mb))))) hk7.size) (Nat.le_refl _)))) (Nat.ne_of_lt (nt (nt (lt_of_get hb10) (nl hk20.size hk23.size)) (Nat.le_refl _))))
          refine s_e0 (e_storeV (cs' := #[U0, U0, U0, U0, (Vi 0)]) [U0, U0, U0, U0, (Vi 0)] g212 (v := (.agg #[U0, U0, U0, U0, .int .i64 0])) rfl rfl sz34 hb217 rfl rfl rfl) ?_
          rintro _ w218 ⟨hb219, hk220⟩
          have ka221 := (Kp.fresh ka205 hk220 fun _ e => nl (nl hk7.size (Nat.le_refl _)) (Nat.le_of_eq e.symm))
          refine s_y (y_assign (v := (Vi 13)) rfl) rfl ?_
          refine s_nil (hK216 _ _ (genC [(6, (Vp w5.heap.size 0)), (7, (Vi 13))] ⟨g212, rfl, trivial⟩ ?_))
          clear hK216; rintro E ⟨g222, g223, -⟩
          refine ret (hret _ _ [(t4 (⟨(⟨0, 0, 0, 0⟩ : V4), 0⟩ : T4)), (Vi 13)] ⟨⟨_, g222, (rd_agg (vs := [U0, U0, U0, U0, (Vi 0)]) ag34 (On.now hb219) (by kernel_rfl) rfl)⟩, g223, trivial⟩ ?_)
          have hf224 := (BibIs.kp (BibIs.kp hBw191 hk204 (fun b hb => (fun e => (fun hb => Nat.lt_irrefl _ (nt (BibIs.lt h _ hb) (nl hz200 (Nat.le_refl _)))) (e ▸ hb))) (Nat.ne_of_lt (nt (nt (hT0.lt) hz200) (Nat.le_refl _)))) hk220 (fun b hb => (fun e => (fun hb => Nat.lt_irrefl _ (nt (BibIs.lt h _ hb) (nl hk7.size (Nat.le_refl _)))) (e ▸ hb))) (Nat.ne_of_lt (nt (nt (hT0.lt) hk7.size) (Nat.le_refl _))))
          exact ⟨.inl ⟨_, hr187, hq195, hf224, rfl⟩, ka221⟩
        · omega
      · have hBw191 := BibIs.pool_put hf190 (k := 1) (by omega) hp196 hk192
        have ka225 := (Kp.trans ka188 hk192 (fun _ _ e => e))
        have ks226 := (Kp.trans ks189 hk192 (fun _ _ e => e))
        refine ⟨ks226, ?_⟩
        refine o_y rfl (y_move (v := (.tuple #[(t4 t197), (Vi 0)])) rfl) ?_
        refine o_y rfl (y_ext rfl (v := (t4 t197)) rfl) ?_
        refine o_y rfl (y_ext rfl (v := (Vi 0)) rfl) ?_
        refine o_one ?_
        have hz227 := (nl (nl (nl hk7.size hk11.size) hk20.size) hk23.size)
        have hb228 := (hk192.get (hk185.get0 hb179) (Nat.ne_of_gt (nt (nt ((BibIs.lt h _ (mem_blocks (List.mem_of_getElem? (i := 11) (rfl : g.blocks[11]? = some (g.p 1).mb))))) hz227) (Nat.le_refl _))))
        refine c_e0 rfl (e_storeV (cs' := t197.cs.toArray) t197.cs rfl (v := (t4 t197)) rfl rfl sz34 hb228 rfl rfl rfl) ?_
        rintro _ w229 ⟨hb230, hk231⟩
        have ka232 := (Kp.fresh ka225 hk231 fun _ e => nl (nl hz227 (Nat.le_refl _)) (Nat.le_of_eq e.symm))
        have ks233 := (Kp.fresh ks226 hk231 fun _ e => nl (nl hk23.size (Nat.le_refl _)) (Nat.le_of_eq e.symm))
        refine ⟨ks233, ?_⟩
        refine o_y rfl (y_assign (v := (Vi 0)) rfl) ?_
        refine o_done (hK17 _ _ (genC [(6, (Vp w5.heap.size 0)), (8, (Vp w22.heap.size 0)), (9, (Vi 0))] ⟨g16, rfl, rfl, trivial⟩ ?_))
        clear hK17; rintro E ⟨g234, g235, g236, -⟩
        refine seq fun K237 hK237 => ?_
        refine seq fun K238 hK238 => ?_
        refine reg ?_
        refine s_y (y_move (v := (Vi 0)) g236) rfl ?_
        refine s_y (y_neq rfl rfl) rfl ?_
        refine s_nil (hK238 _ _ (genC [(6, (Vp w5.heap.size 0)), (8, (Vp w22.heap.size 0)), (30, Vf)] ⟨g234, g235, rfl, trivial⟩ ?_))
        clear hK238; rintro E ⟨g239, g240, g241, -⟩
        refine cond_f g241 ?_
        refine skip (hK237 _ _ (genC [(6, (Vp w5.heap.size 0)), (8, (Vp w22.heap.size 0))] ⟨g239, g240, trivial⟩ ?_))
        clear hK237; rintro E ⟨g242, g243, -⟩
        refine seq fun K244 hK244 => ?_
        refine reg ?_
        refine s_y (y_load (v := (t4 t197)) g243 (rd_agg (vs := t197.cs) ag34 (On.now hb230) (by kernel_rfl) rfl)) rfl ?_
        have hb245 := (hk231.get (hk192.get (hk185.get0 (hk180.get0 (hk23.get0 (hk20.get0 hb10)))) (Nat.ne_of_gt (nt (nt ((BibIs.lt h _ (mem_blocks (List.mem_of_getElem? (i := 11) (rfl : g.blocks[11]? = some (g.p 1).mb))))) hk7.size) (Nat.le_refl _)))) (Nat.ne_of_lt (nt (nt (lt_of_get hb10) (nl hk20.size hk23.size)) (Nat.le_refl _))))
        refine s_e0 (e_storeV (cs' := t197.cs.toArray) t197.cs g242 (v := (t4 t197)) rfl rfl sz34 hb245 rfl rfl rfl) ?_
        rintro _ w246 ⟨hb247, hk248⟩
        have ka249 := (Kp.fresh ka232 hk248 fun _ e => nl (nl hk7.size (Nat.le_refl _)) (Nat.le_of_eq e.symm))
        refine s_y (y_assign (v := (Vi 0)) rfl) rfl ?_
        refine s_nil (hK244 _ _ (genC [(6, (Vp w5.heap.size 0)), (7, (Vi 0))] ⟨g242, rfl, trivial⟩ ?_))
        clear hK244; rintro E ⟨g250, g251, -⟩
        refine ret (hret _ _ [(t4 t197), (Vi 0)] ⟨⟨_, g250, (rd_agg (vs := t197.cs) ag34 (On.now hb247) (by kernel_rfl) rfl)⟩, g251, trivial⟩ ?_)
        have hf252 := (BibIs.kp (BibIs.kp hBw191 hk231 (fun b hb => (fun e => (fun hb => Nat.lt_irrefl _ (nt (BibIs.lt h _ hb) (nl hz227 (Nat.le_refl _)))) (e ▸ hb))) (Nat.ne_of_lt (nt (nt (hT0.lt) hz227) (Nat.le_refl _)))) hk248 (fun b hb => (fun e => (fun hb => Nat.lt_irrefl _ (nt (BibIs.lt h _ hb) (nl hk7.size (Nat.le_refl _)))) (e ▸ hb))) (Nat.ne_of_lt (nt (nt (hT0.lt) hk7.size) (Nat.le_refl _))))
        exact ⟨.inr ⟨_, _, hr187, hq195, hf252, rfl⟩, ka249⟩
  · refine c_e rfl (e_alloc ze34) ?_
    rintro _ w253 ⟨rfl, hb254, hk255⟩
    have ka256 := (Kp.then0 ka21 hk255)
    have ks257 : Kp (· = (g.p 1).mb) w18 w253 := (Kp.then0 (Kp.refl _ _) hk255)
    refine ⟨ks257, ?_⟩
    refine o_one ?_
    refine c_e rfl (e_call ca51 (args := [(Vi 6)]) rfl (kind_spec 6 _)) ?_
    rintro _ w258 ⟨rfl, hk259⟩
    have ka260 := (Kp.then0 ka256 hk259)
    have ks261 := (Kp.then0 ks257 hk259)
    refine ⟨ks261, ?_⟩
    refine o_y rfl (y_idxA ao93 sz92 rfl (i := 1) rfl (by omega)) ?_
    refine o_y rfl (y_load (v := (Vp ((g.p 1).pb) 0)) rfl (rd_sc sc92 (On.kp (hk20.get0 (hk11.get0 (hk7.get0 hb0))) (blocks_ne h.nd (i := 0) (j := 11) (by decide) rfl rfl)) rfl)) ?_
    refine o_one ?_
    have hf262 := (BibIs.k0 (BibIs.k0 (BibIs.k0 (BibIs.k0 (BibIs.k0 h hk7) hk11) hk20) hk255) hk259)
    refine c_e rfl (e_call ca84 (args := [(Vp g.tb 0), (v6 t.addr)]) rfl (pair_spec hf262 t.addr h1)) ?_
    rintro _ w263 ⟨⟨r265, rfl, hr266⟩, hk264⟩
    have ka267 := (Kp.then0 ka260 hk264)
    have ks268 := (Kp.then0 ks261 hk264)
    refine ⟨ks268, ?_⟩
    refine o_one ?_
    have hf269 := (BibIs.k0 hf262 hk264)
    refine c_e rfl (e_call ca83 (args := [(Vp ((g.p 1).pb) 0), (v4 r265), (Vi (t.port)), Vf]) rfl (take2_spec (BibIs.pool hf269 1 (by omega)) (ok.pool 1 (by omega)) r265 t.port (decide ((6 : Int) = 1)))) ?_
    rintro _ w270 ⟨⟨e272, he273, hq274, hp275, rfl⟩ | ⟨t276, hq274, hp275, rfl⟩, hk271⟩
    · have hBw270 := BibIs.pool_put hf269 (k := 1) (by omega) hp275 hk271
      have ka277 := (Kp.trans ka267 hk271 (fun _ _ e => e))
      have ks278 := (Kp.trans ks268 hk271 (fun _ _ e => e))
      refine ⟨ks278, ?_⟩
      refine o_y rfl (y_move (v := (.tuple #[(t4 zeroT4), (Vi e272)])) rfl) ?_
      refine o_y rfl (y_ext rfl (v := (t4 zeroT4)) rfl) ?_
      refine o_y rfl (y_ext rfl (v := (Vi e272)) rfl) ?_
      refine o_one ?_
      have hz279 := (nl (nl hk7.size hk11.size) hk20.size)
      have hb280 := (hk271.get (hk264.get0 (hk259.get0 hb254)) (Nat.ne_of_gt (nt (nt ((BibIs.lt h _ (mem_blocks (List.mem_of_getElem? (i := 11) (rfl : g.blocks[11]? = some (g.p 1).mb))))) hz279) (Nat.le_refl _))))
      refine c_e0 rfl (e_storeV (cs' := zeroT4.cs.toArray) zeroT4.cs rfl (v := (t4 zeroT4)) rfl rfl sz34 hb280 rfl rfl rfl) ?_
      rintro _ w281 ⟨hb282, hk283⟩
      have ka284 := (Kp.fresh ka277 hk283 fun _ e => nl (nl hz279 (Nat.le_refl _)) (Nat.le_of_eq e.symm))
      have ks285 := (Kp.fresh ks278 hk283 fun _ e => nl (nl (Nat.le_refl _) (Nat.le_refl _)) (Nat.le_of_eq e.symm))
      refine ⟨ks285, ?_⟩
      refine o_y rfl (y_assign (v := (Vi e272)) rfl) ?_
      refine o_done (hK17 _ _ (genC [(6, (Vp w5.heap.size 0)), (8, (Vp w18.heap.size 0)), (9, (Vi e272))] ⟨g16, rfl, rfl, trivial⟩ ?_))
      clear hK17; rintro E ⟨g286, g287, g288, -⟩
      refine seq fun K289 hK289 => ?_
      refine seq fun K290 hK290 => ?_
      refine reg ?_
      refine s_y (y_move (v := (Vi e272)) g288) rfl ?_
      refine s_y (y_neq rfl rfl) rfl ?_
      refine s_nil (hK290 _ _ (genC [(6, (Vp w5.heap.size 0)), (8, (Vp w18.heap.size 0)), (30, (.bool (decide ((e272 : Int) ≠ 0))))] ⟨g286, g287, rfl, trivial⟩ ?_))
      clear hK290; rintro E ⟨g291, g292, g293, -⟩
      refine cond_d g293 (fun c294 => ?_) (fun c294 => ?_)
      · refine seq fun K295 hK295 => ?_
        refine reg ?_
        refine s_y (y_build (vs := []) (v := (.agg #[U0, U0, U0, U0, .int .i64 0])) rfl (fun _ => by kernel_rfl)) rfl ?_
        have hb296 := (hk283.get (hk271.get (hk264.get0 (hk259.get0 (hk255.get0 (hk20.get0 hb10)))) (Nat.ne_of_gt (nt (nt ((BibIs.lt h _ (mem_blocks (List.mem_of_getElem? (i := 11) (rfl : g.blocks[11]? = some (g.p 1).mb))))) hk7.size) (Nat.le_refl _)))) (Nat.ne_of_lt (nt (nt (lt_of_get hb10) hk20.size) (Nat.le_refl _))))
        refine s_e0 (e_storeV (cs' := #[U0, U0, U0, U0, (Vi 0)]) [U0, U0, U0, U0, (Vi 0)] g291 (v := (.agg #[U0, U0, U0, U0, .int .i64 0])) rfl rfl sz34 hb296 rfl rfl rfl) ?_
        rintro _ w297 ⟨hb298, hk299⟩
        have ka300 := (Kp.fresh ka284 hk299 fun _ e => nl (nl hk7.size (Nat.le_refl _)) (Nat.le_of_eq e.symm))
        refine s_y (y_assign (v := (Vi 13)) rfl) rfl ?_
        refine s_nil (hK295 _ _ (genC [(6, (Vp w5.heap.size 0)), (7, (Vi 13))] ⟨g291, rfl, trivial⟩ ?_))
        clear hK295; rintro E ⟨g301, g302, -⟩
        refine ret (hret _ _ [(t4 (⟨(⟨0, 0, 0, 0⟩ : V4), 0⟩ : T4)), (Vi 13)] ⟨⟨_, g301, (rd_agg (vs := [U0, U0, U0, U0, (Vi 0)]) ag34 (On.now hb298) (by kernel_rfl) rfl)⟩, g302, trivial⟩ ?_)
        have hf303 := (BibIs.kp (BibIs.kp hBw270 hk283 (fun b hb => (fun e => (fun hb => Nat.lt_irrefl _ (nt (BibIs.lt h _ hb) (nl hz279 (Nat.le_refl _)))) (e ▸ hb))) (Nat.ne_of_lt (nt (nt (hT0.lt) hz279) (Nat.le_refl _)))) hk299 (fun b hb => (fun e => (fun hb => Nat.lt_irrefl _ (nt (BibIs.lt h _ hb) (nl hk7.size (Nat.le_refl _)))) (e ▸ hb))) (Nat.ne_of_lt (nt (nt (hT0.lt) hk7.size) (Nat.le_refl _))))
        exact ⟨.inl ⟨_, hr266, hq274, hf303, rfl⟩, ka300⟩
      · omega
    · have hBw270 := BibIs.pool_put hf269 (k := 1) (by omega) hp275 hk271
      have ka304 := (Kp.trans ka267 hk271 (fun _ _ e => e))
      have ks305 := (Kp.trans ks268 hk271 (fun _ _ e => e))
      refine ⟨ks305, ?_⟩
      refine o_y rfl (y_move (v := (.tuple #[(t4 t276), (Vi 0)])) rfl) ?_
      refine o_y rfl (y_ext rfl (v := (t4 t276)) rfl) ?_
      refine o_y rfl (y_ext rfl (v := (Vi 0)) rfl) ?_
      refine o_one ?_
      have hz306 := (nl (nl hk7.size hk11.size) hk20.size)
      have hb307 := (hk271.get (hk264.get0 (hk259.get0 hb254)) (Nat.ne_of_gt (nt (nt ((BibIs.lt h _ (mem_blocks (List.mem_of_getElem? (i := 11) (rfl : g.blocks[11]? = some (g.p 1).mb))))) hz306) (Nat.le_refl _))))
      refine c_e0 rfl (e_storeV (cs' := t276.cs.toArray) t276.cs rfl (v := (t4 t276)) rfl rfl sz34 hb307 rfl rfl rfl) ?_
      rintro _ w308 ⟨hb309, hk310⟩
      have ka311 := (Kp.fresh ka304 hk310 fun _ e => nl (nl hz306 (Nat.le_refl _)) (Nat.le_of_eq e.symm))
      have ks312 := (Kp.fresh ks305 hk310 fun _ e => nl (nl (Nat.le_refl _) (Nat.le_refl _)) (Nat.le_of_eq e.symm))
      refine ⟨ks312, ?_⟩
      refine o_y rfl (y_assign (v := (Vi 0)) rfl) ?_
      refine o_done (hK17 _ _ (genC [(6, (Vp w5.heap.size 0)), (8, (Vp w18.heap.size 0)), (9, (Vi 0))] ⟨g16, rfl, rfl, trivial⟩ ?_))
      clear hK17; rintro E ⟨g313, g314, g315, -⟩
      refine seq fun K316 hK316 => ?_
      refine seq fun K317 hK317 => ?_
      refine reg ?_
      refine s_y (y_move (v := (Vi 0)) g315) rfl ?_
      refine s_y (y_neq rfl rfl) rfl ?_
      refine s_nil (hK317 _ _ (genC [(6, (Vp w5.heap.size 0)), (8, (Vp w18.heap.size 0)), (30, Vf)] ⟨g313, g314, rfl, trivial⟩ ?_))
      clear hK317; rintro E ⟨g318, g319, g320, -⟩
      refine cond_f g320 ?_
      refine skip (hK316 _ _ (genC [(6, (Vp w5.heap.size 0)), (8, (Vp w18.heap.size 0))] ⟨g318, g319, trivial⟩ ?_))
      clear hK316; rintro E ⟨g321, g322, -⟩
      refine seq fun K323 hK323 => ?_
      refine reg ?_
      refine s_y (y_load (v := (t4 t276)) g322 (rd_agg (vs := t276.cs) ag34 (On.now hb309) (by kernel_rfl) rfl)) rfl ?_
      have hb324 := (hk310.get (hk271.get (hk264.get0 (hk259.get0 (hk255.get0 (hk20.get0 hb10)))) (Nat.ne_of_gt (nt (nt ((BibIs.lt h _ (mem_blocks (List.mem_of_getElem? (i := 11) (rfl : g.blocks[11]? = some (g.p 1).mb))))) hk7.size) (Nat.le_refl _)))) (Nat.ne_of_lt (nt (nt (lt_of_get hb10) hk20.size) (Nat.le_refl _))))
      refine s_e0 (e_storeV (cs' := t276.cs.toArray) t276.cs g321 (v := (t4 t276)) rfl rfl sz34 hb324 rfl rfl rfl) ?_
      rintro _ w325 ⟨hb326, hk327⟩
      have ka328 := (Kp.fresh ka311 hk327 fun _ e => nl (nl hk7.size (Nat.le_refl _)) (Nat.le_of_eq e.symm))
      refine s_y (y_assign (v := (Vi 0)) rfl) rfl ?_
      refine s_nil (hK323 _ _ (genC [(6, (Vp w5.heap.size 0)), (7, (Vi 0))] ⟨g321, rfl, trivial⟩ ?_))
      clear hK323; rintro E ⟨g329, g330, -⟩
      refine ret (hret _ _ [(t4 t276), (Vi 0)] ⟨⟨_, g329, (rd_agg (vs := t276.cs) ag34 (On.now hb326) (by kernel_rfl) rfl)⟩, g330, trivial⟩ ?_)
      have hf331 := (BibIs.kp (BibIs.kp hBw270 hk310 (fun b hb => (fun e => (fun hb => Nat.lt_irrefl _ (nt (BibIs.lt h _ hb) (nl hz306 (Nat.le_refl _)))) (e ▸ hb))) (Nat.ne_of_lt (nt (nt (hT0.lt) hz306) (Nat.le_refl _)))) hk327 (fun b hb => (fun e => (fun hb => Nat.lt_irrefl _ (nt (BibIs.lt h _ hb) (nl hk7.size (Nat.le_refl _)))) (e ▸ hb))) (Nat.ne_of_lt (nt (nt (hT0.lt) hk7.size) (Nat.le_refl _))))
      exact ⟨.inr ⟨_, _, hr266, hq274, hf331, rfl⟩, ka328⟩

theorem take_2 {g : BibG} {st : BibS} {w : World} (ok : BibOk g) (h : BibIs g st w) (t : T6) (h1 : ∀ q ∈ st.l, 1 ≤ q.1.id)  : Rets Tryd.prog 47 #[(.pointer (some ⟨g.tb, 0, none⟩)), (.int .i64 17), (t6 t)] w fun v w' => ((∃ a, PairR g st.l t.addr a ∧ TakeQ (g.p 2) (st.h 2) a t.port (decide ((17 : Int) = 1)) none ∧ BibIs g { st with h := setH st.h 2 (st.h 2) } w' ∧ v = .tuple #[t4 zeroT4, .int .i64 13]) ∨ (∃ a r, PairR g st.l t.addr a ∧ TakeQ (g.p 2) (st.h 2) a t.port (decide ((17 : Int) = 1)) (some r) ∧ BibIs g { st with h := setH st.h 2 (st.h 2 ++ [(r, false)]) } w' ∧ v = .tuple #[t4 r, .int .i64 0])) ∧ Kp (· = (g.p 2).mb) w w' := by
  refine enter Tryd.func47 rfl Tryd.ntmps47 rfl fun Q hret hend E hE => ?_
  have g1 : E 0 = (Vp g.tb 0) := hE 0
  have g2 : E 1 = (Vi 17) := hE 1
  have g3 : E 2 = (t6 t) := hE 2
  clear hE
  have hb0 := h.blk; have hm0 := h.map; have hT0 := h.tb; have hn1 : g.tb ≠ g.mb := blk_ne_map h.blk h.map
  refine seq fun K4 hK4 => ?_
  refine reg ?_
  refine s_e (e_box (v := (t6 t)) g3) rfl ?_
  rintro _ w5 ⟨rfl, hb6, hk7⟩
  have ka8 : Kp (· = (g.p 2).mb) w w5 := (Kp.then0 (Kp.refl _ _) hk7)
  refine s_e (e_alloc ze34) rfl ?_
  rintro _ w9 ⟨rfl, hb10, hk11⟩
  have ka12 := (Kp.then0 ka8 hk11)
  refine s_y (y_assign (v := (Vi 0)) rfl) rfl ?_
  refine s_nil (hK4 _ _ (genC [(0, (Vp g.tb 0)), (1, (Vi 17)), (5, (Vp w.heap.size 0)), (6, (Vp w5.heap.size 0))] ⟨g1, g2, rfl, rfl, trivial⟩ ?_))
  clear hK4; rintro E ⟨g13, g14, g15, g16, -⟩
  refine seq fun K17 hK17 => ?_
  refine regD (· = (g.p 2).mb) (.take 0 (.take 1 (.take 3 (.take 4 (.take 7 (.take 8 (.take 9 (.take 11 (.take 12 (.take 13 (.take 14 (.two 2 (.take 5 (.take 6 (.two 10 (.two 15 (.take 16 (.take 17 (.take 18 (.one 19 (.one 20 (.take 21 .done)))))) 19 (.one 15 (.take 16 (.take 17 (.take 18 (.one 20 (.take 21 .done))))))) 19 (.one 10 (.one 15 (.take 16 (.take 17 (.take 18 (.one 20 (.take 21 .done)))))))))) 19 (.one 2 (.take 5 (.take 6 (.one 10 (.one 15 (.take 16 (.take 17 (.take 18 (.one 20 (.take 21 .done)))))))))))))))))))))) mixed (by kernel_rfl) fun w18 hh19 hk20 => ?_
  have ka21 := (Kp.then0 ka12 hk20)
  refine o_y rfl (y_move (v := (Vp g.tb 0)) g13) ?_
  refine o_y rfl (y_move (v := (Vi 17)) g14) ?_
  refine o_y rfl (y_nil rfl) ?_
  refine o_y rfl (y_fld fo95_6 rfl) ?_
  refine o_y rfl (y_move (v := (Vp g.tb 0)) g13) ?_
  refine o_y rfl (y_fld fo32_0 g15) ?_
  refine o_y rfl (y_load (v := (v6 t.addr)) rfl (rd_agg (vs := [(u8 t.addr.b0), (u8 t.addr.b1), (u8 t.addr.b2), (u8 t.addr.b3), (u8 t.addr.b4), (u8 t.addr.b5), (u8 t.addr.b6), (u8 t.addr.b7), (u8 t.addr.b8), (u8 t.addr.b9), (u8 t.addr.b10), (u8 t.addr.b11), (u8 t.addr.b12), (u8 t.addr.b13), (u8 t.addr.b14), (u8 t.addr.b15)]) ag30 (On.kp (hk20.get0 (hk11.get0 hb6)) (Nat.ne_of_gt (nt ((BibIs.lt h _ (mem_blocks (List.mem_of_getElem? (i := 14) (rfl : g.blocks[14]? = some (g.p 2).mb))))) (Nat.le_refl _)))) (by kernel_rfl) rfl)) ?_
  refine o_y rfl (y_fld fo32_1 g15) ?_
  refine o_y rfl (y_load (v := (Vi (t.port))) rfl (rd_sc sc3 (On.kp (hk20.get0 (hk11.get0 hb6)) (Nat.ne_of_gt (nt ((BibIs.lt h _ (mem_blocks (List.mem_of_getElem? (i := 14) (rfl : g.blocks[14]? = some (g.p 2).mb))))) (Nat.le_refl _)))) rfl)) ?_
  refine o_y rfl (y_move (v := (Vi 17)) g14) ?_
  refine o_y rfl (y_eql rfl rfl) ?_
  refine o_two ?_ ?_
  · refine c_e rfl (e_call ca51 (args := [(Vi 17)]) rfl (kind_spec 17 _)) ?_
    rintro _ w22 ⟨rfl, hk23⟩
    have ka24 := (Kp.then0 ka21 hk23)
    have ks25 : Kp (· = (g.p 2).mb) w18 w22 := (Kp.then0 (Kp.refl _ _) hk23)
    refine ⟨ks25, ?_⟩
    refine o_y rfl (y_idxA ao93 sz92 rfl (i := 2) rfl (by omega)) ?_
    refine o_y rfl (y_load (v := (Vp ((g.p 2).pb) 0)) rfl (rd_sc sc92 (On.kp (hk20.get0 (hk11.get0 (hk7.get0 hb0))) (blocks_ne h.nd (i := 0) (j := 14) (by decide) rfl rfl)) rfl)) ?_
    refine o_two ?_ ?_
    · have hf26 := (BibIs.k0 (BibIs.k0 (BibIs.k0 (BibIs.k0 h hk7) hk11) hk20) hk23)
      refine c_e rfl (e_call ca84 (args := [(Vp g.tb 0), (v6 t.addr)]) rfl (pair_spec hf26 t.addr h1)) ?_
      rintro _ w27 ⟨⟨r29, rfl, hr30⟩, hk28⟩
      have ka31 := (Kp.then0 ka24 hk28)
      have ks32 := (Kp.then0 ks25 hk28)
      refine ⟨ks32, ?_⟩
      refine o_two ?_ ?_
      · have hf33 := (BibIs.k0 hf26 hk28)
        refine c_e rfl (e_call ca83 (args := [(Vp ((g.p 2).pb) 0), (v4 r29), (Vi (t.port)), Vf]) rfl (take2_spec (BibIs.pool hf33 2 (by omega)) (ok.pool 2 (by omega)) r29 t.port (decide ((17 : Int) = 1)))) ?_
        rintro _ w34 ⟨⟨e36, he37, hq38, hp39, rfl⟩ | ⟨t40, hq38, hp39, rfl⟩, hk35⟩
        · have hBw34 := BibIs.pool_put hf33 (k := 2) (by omega) hp39 hk35
          have ka41 := (Kp.trans ka31 hk35 (fun _ _ e => e))
          have ks42 := (Kp.trans ks32 hk35 (fun _ _ e => e))
          refine ⟨ks42, ?_⟩
          refine o_y rfl (y_move (v := (.tuple #[(t4 zeroT4), (Vi e36)])) rfl) ?_
          refine o_y rfl (y_ext rfl (v := (t4 zeroT4)) rfl) ?_
          refine o_y rfl (y_ext rfl (v := (Vi e36)) rfl) ?_
          refine o_one ?_
          refine c_e rfl (e_alloc ze34) ?_
          rintro _ w43 ⟨rfl, hb44, hk45⟩
          have ka46 := (Kp.then0 ka41 hk45)
          have ks47 := (Kp.then0 ks42 hk45)
          refine ⟨ks47, ?_⟩
          refine o_one ?_
          refine c_e0 rfl (e_storeV (cs' := zeroT4.cs.toArray) zeroT4.cs rfl (v := (t4 zeroT4)) rfl rfl sz34 hb44 rfl rfl rfl) ?_
          rintro _ w48 ⟨hb49, hk50⟩
          have hz52 := (nl (nl (nl (nl (nl hk7.size hk11.size) hk20.size) hk23.size) hk28.size) hk35.size)
          have ka51 := (Kp.fresh ka46 hk50 fun _ e => nl (nl hz52 (Nat.le_refl _)) (Nat.le_of_eq e.symm))
          have hz54 := (nl (nl hk23.size hk28.size) hk35.size)
          have ks53 := (Kp.fresh ks47 hk50 fun _ e => nl (nl hz54 (Nat.le_refl _)) (Nat.le_of_eq e.symm))
          refine ⟨ks53, ?_⟩
          refine o_y rfl (y_assign (v := (Vi e36)) rfl) ?_
          refine o_done (hK17 _ _ (genC [(6, (Vp w5.heap.size 0)), (8, (Vp w34.heap.size 0)), (9, (Vi e36))] ⟨g16, rfl, rfl, trivial⟩ ?_))
          clear hK17; rintro E ⟨g55, g56, g57, -⟩
          refine seq fun K58 hK58 => ?_
          refine seq fun K59 hK59 => ?_
          refine reg ?_
          refine s_y (y_move (v := (Vi e36)) g57) rfl ?_
          refine s_y (y_neq rfl rfl) rfl ?_
          refine s_nil (hK59 _ _ (genC [(6, (Vp w5.heap.size 0)), (8, (Vp w34.heap.size 0)), (30, (.bool (decide ((e36 : Int) ≠ 0))))] ⟨g55, g56, rfl, trivial⟩ ?_))
          clear hK59; rintro E ⟨g60, g61, g62, -⟩
          refine cond_d g62 (fun c63 => ?_) (fun c63 => ?_)
          · refine seq fun K64 hK64 => ?_
            refine reg ?_
            refine s_y (y_build (vs := []) (v := (.agg #[U0, U0, U0, U0, .int .i64 0])) rfl (fun _ => by kernel_rfl)) rfl ?_
            have hz65 := (nl (nl (nl hk20.size hk23.size) hk28.size) hk35.size)
            have hb66 := (hk50.get (hk45.get0 (hk35.get (hk28.get0 (hk23.get0 (hk20.get0 hb10))) (Nat.ne_of_gt (nt (nt ((BibIs.lt h _ (mem_blocks (List.mem_of_getElem? (i := 14) (rfl : g.blocks[14]? = some (g.p 2).mb))))) hk7.size) (Nat.le_refl _))))) (Nat.ne_of_lt (nt (nt (lt_of_get hb10) hz65) (Nat.le_refl _))))
            refine s_e0 (e_storeV (cs' := #[U0, U0, U0, U0, (Vi 0)]) [U0, U0, U0, U0, (Vi 0)] g60 (v := (.agg #[U0, U0, U0, U0, .int .i64 0])) rfl rfl sz34 hb66 rfl rfl rfl) ?_
            rintro _ w67 ⟨hb68, hk69⟩
            have ka70 := (Kp.fresh ka51 hk69 fun _ e => nl (nl hk7.size (Nat.le_refl _)) (Nat.le_of_eq e.symm))
            refine s_y (y_assign (v := (Vi 13)) rfl) rfl ?_
            refine s_nil (hK64 _ _ (genC [(6, (Vp w5.heap.size 0)), (7, (Vi 13))] ⟨g60, rfl, trivial⟩ ?_))
            clear hK64; rintro E ⟨g71, g72, -⟩
            refine ret (hret _ _ [(t4 (⟨(⟨0, 0, 0, 0⟩ : V4), 0⟩ : T4)), (Vi 13)] ⟨⟨_, g71, (rd_agg (vs := [U0, U0, U0, U0, (Vi 0)]) ag34 (On.now hb68) (by kernel_rfl) rfl)⟩, g72, trivial⟩ ?_)
            have hf73 := (BibIs.kp (BibIs.kp (BibIs.k0 hBw34 hk45) hk50 (fun b hb => (fun e => (fun hb => Nat.lt_irrefl _ (nt (BibIs.lt h _ hb) (nl hz52 (Nat.le_refl _)))) (e ▸ hb))) (Nat.ne_of_lt (nt (nt (hT0.lt) hz52) (Nat.le_refl _)))) hk69 (fun b hb => (fun e => (fun hb => Nat.lt_irrefl _ (nt (BibIs.lt h _ hb) (nl hk7.size (Nat.le_refl _)))) (e ▸ hb))) (Nat.ne_of_lt (nt (nt (hT0.lt) hk7.size) (Nat.le_refl _))))
            exact ⟨.inl ⟨_, hr30, hq38, hf73, rfl⟩, ka70⟩
          · omega
        · have hBw34 := BibIs.pool_put hf33 (k := 2) (by omega) hp39 hk35
          have ka74 := (Kp.trans ka31 hk35 (fun _ _ e => e))
          have ks75 := (Kp.trans ks32 hk35 (fun _ _ e => e))
          refine ⟨ks75, ?_⟩
          refine o_y rfl (y_move (v := (.tuple #[(t4 t40), (Vi 0)])) rfl) ?_
          refine o_y rfl (y_ext rfl (v := (t4 t40)) rfl) ?_
          refine o_y rfl (y_ext rfl (v := (Vi 0)) rfl) ?_
          refine o_one ?_
          refine c_e rfl (e_alloc ze34) ?_
          rintro _ w76 ⟨rfl, hb77, hk78⟩
          have ka79 := (Kp.then0 ka74 hk78)
          have ks80 := (Kp.then0 ks75 hk78)
          refine ⟨ks80, ?_⟩
          refine o_one ?_
          refine c_e0 rfl (e_storeV (cs' := t40.cs.toArray) t40.cs rfl (v := (t4 t40)) rfl rfl sz34 hb77 rfl rfl rfl) ?_
          rintro _ w81 ⟨hb82, hk83⟩
          have hz85 := (nl (nl (nl (nl (nl hk7.size hk11.size) hk20.size) hk23.size) hk28.size) hk35.size)
          have ka84 := (Kp.fresh ka79 hk83 fun _ e => nl (nl hz85 (Nat.le_refl _)) (Nat.le_of_eq e.symm))
          have hz87 := (nl (nl hk23.size hk28.size) hk35.size)
          have ks86 := (Kp.fresh ks80 hk83 fun _ e => nl (nl hz87 (Nat.le_refl _)) (Nat.le_of_eq e.symm))
          refine ⟨ks86, ?_⟩
          refine o_y rfl (y_assign (v := (Vi 0)) rfl) ?_
          refine o_done (hK17 _ _ (genC [(6, (Vp w5.heap.size 0)), (8, (Vp w34.heap.size 0)), (9, (Vi 0))] ⟨g16, rfl, rfl, trivial⟩ ?_))
          clear hK17; rintro E ⟨g88, g89, g90, -⟩
          refine seq fun K91 hK91 => ?_
          refine seq fun K92 hK92 => ?_
          refine reg ?_
          refine s_y (y_move (v := (Vi 0)) g90) rfl ?_
          refine s_y (y_neq rfl rfl) rfl ?_
          refine s_nil (hK92 _ _ (genC [(6, (Vp w5.heap.size 0)), (8, (Vp w34.heap.size 0)), (30, Vf)] ⟨g88, g89, rfl, trivial⟩ ?_))
          clear hK92; rintro E ⟨g93, g94, g95, -⟩
          refine cond_f g95 ?_
          refine skip (hK91 _ _ (genC [(6, (Vp w5.heap.size 0)), (8, (Vp w34.heap.size 0))] ⟨g93, g94, trivial⟩ ?_))
          clear hK91; rintro E ⟨g96, g97, -⟩
          refine seq fun K98 hK98 => ?_
          refine reg ?_
          refine s_y (y_load (v := (t4 t40)) g97 (rd_agg (vs := t40.cs) ag34 (On.now hb82) (by kernel_rfl) rfl)) rfl ?_
          have hz99 := (nl (nl (nl hk20.size hk23.size) hk28.size) hk35.size)
          have hb100 := (hk83.get (hk78.get0 (hk35.get (hk28.get0 (hk23.get0 (hk20.get0 hb10))) (Nat.ne_of_gt (nt (nt ((BibIs.lt h _ (mem_blocks (List.mem_of_getElem? (i := 14) (rfl : g.blocks[14]? = some (g.p 2).mb))))) hk7.size) (Nat.le_refl _))))) (Nat.ne_of_lt (nt (nt (lt_of_get hb10) hz99) (Nat.le_refl _))))
          refine s_e0 (e_storeV (cs' := t40.cs.toArray) t40.cs g96 (v := (t4 t40)) rfl rfl sz34 hb100 rfl rfl rfl) ?_
          rintro _ w101 ⟨hb102, hk103⟩
          have ka104 := (Kp.fresh ka84 hk103 fun _ e => nl (nl hk7.size (Nat.le_refl _)) (Nat.le_of_eq e.symm))
          refine s_y (y_assign (v := (Vi 0)) rfl) rfl ?_
          refine s_nil (hK98 _ _ (genC [(6, (Vp w5.heap.size 0)), (7, (Vi 0))] ⟨g96, rfl, trivial⟩ ?_))
          clear hK98; rintro E ⟨g105, g106, -⟩
          refine ret (hret _ _ [(t4 t40), (Vi 0)] ⟨⟨_, g105, (rd_agg (vs := t40.cs) ag34 (On.now hb102) (by kernel_rfl) rfl)⟩, g106, trivial⟩ ?_)
          have hf107 := (BibIs.kp (BibIs.kp (BibIs.k0 hBw34 hk78) hk83 (fun b hb => (fun e => (fun hb => Nat.lt_irrefl _ (nt (BibIs.lt h _ hb) (nl hz85 (Nat.le_refl _)))) (e ▸ hb))) (Nat.ne_of_lt (nt (nt (hT0.lt) hz85) (Nat.le_refl _)))) hk103 (fun b hb => (fun e => (fun hb => Nat.lt_irrefl _ (nt (BibIs.lt h _ hb) (nl hk7.size (Nat.le_refl _)))) (e ▸ hb))) (Nat.ne_of_lt (nt (nt (hT0.lt) hk7.size) (Nat.le_refl _))))
          exact ⟨.inr ⟨_, _, hr30, hq38, hf107, rfl⟩, ka104⟩
      · refine c_e rfl (e_alloc ze34) ?_
        rintro _ w108 ⟨rfl, hb109, hk110⟩
        have ka111 := (Kp.then0 ka31 hk110)
        have ks112 := (Kp.then0 ks32 hk110)
        refine ⟨ks112, ?_⟩
        refine o_one ?_
        have hf113 := (BibIs.k0 (BibIs.k0 hf26 hk28) hk110)
        refine c_e rfl (e_call ca83 (args := [(Vp ((g.p 2).pb) 0), (v4 r29), (Vi (t.port)), Vf]) rfl (take2_spec (BibIs.pool hf113 2 (by omega)) (ok.pool 2 (by omega)) r29 t.port (decide ((17 : Int) = 1)))) ?_
        rintro _ w114 ⟨⟨e116, he117, hq118, hp119, rfl⟩ | ⟨t120, hq118, hp119, rfl⟩, hk115⟩
        · have hBw114 := BibIs.pool_put hf113 (k := 2) (by omega) hp119 hk115
          have ka121 := (Kp.trans ka111 hk115 (fun _ _ e => e))
          have ks122 := (Kp.trans ks112 hk115 (fun _ _ e => e))
          refine ⟨ks122, ?_⟩
          refine o_y rfl (y_move (v := (.tuple #[(t4 zeroT4), (Vi e116)])) rfl) ?_
          refine o_y rfl (y_ext rfl (v := (t4 zeroT4)) rfl) ?_
          refine o_y rfl (y_ext rfl (v := (Vi e116)) rfl) ?_
          refine o_one ?_
          have hz123 := (nl (nl (nl (nl hk7.size hk11.size) hk20.size) hk23.size) hk28.size)
          have hb124 := (hk115.get hb109 (Nat.ne_of_gt (nt (nt ((BibIs.lt h _ (mem_blocks (List.mem_of_getElem? (i := 14) (rfl : g.blocks[14]? = some (g.p 2).mb))))) hz123) (Nat.le_refl _))))
          refine c_e0 rfl (e_storeV (cs' := zeroT4.cs.toArray) zeroT4.cs rfl (v := (t4 zeroT4)) rfl rfl sz34 hb124 rfl rfl rfl) ?_
          rintro _ w125 ⟨hb126, hk127⟩
          have ka128 := (Kp.fresh ka121 hk127 fun _ e => nl (nl hz123 (Nat.le_refl _)) (Nat.le_of_eq e.symm))
          have ks129 := (Kp.fresh ks122 hk127 fun _ e => nl (nl (nl hk23.size hk28.size) (Nat.le_refl _)) (Nat.le_of_eq e.symm))
          refine ⟨ks129, ?_⟩
          refine o_y rfl (y_assign (v := (Vi e116)) rfl) ?_
          refine o_done (hK17 _ _ (genC [(6, (Vp w5.heap.size 0)), (8, (Vp w27.heap.size 0)), (9, (Vi e116))] ⟨g16, rfl, rfl, trivial⟩ ?_))
          clear hK17; rintro E ⟨g130, g131, g132, -⟩
          refine seq fun K133 hK133 => ?_
          refine seq fun K134 hK134 => ?_
          refine reg ?_
          refine s_y (y_move (v := (Vi e116)) g132) rfl ?_
          refine s_y (y_neq rfl rfl) rfl ?_
          refine s_nil (hK134 _ _ (genC [(6, (Vp w5.heap.size 0)), (8, (Vp w27.heap.size 0)), (30, (.bool (decide ((e116 : Int) ≠ 0))))] ⟨g130, g131, rfl, trivial⟩ ?_))
          clear hK134; rintro E ⟨g135, g136, g137, -⟩
          refine cond_d g137 (fun c138 => ?_) (fun c138 => ?_)
          · refine seq fun K139 hK139 => ?_
            refine reg ?_
            refine s_y (y_build (vs := []) (v := (.agg #[U0, U0, U0, U0, .int .i64 0])) rfl (fun _ => by kernel_rfl)) rfl ?_
            have hz140 := (nl (nl hk20.size hk23.size) hk28.size)
            have hb141 := (hk127.get (hk115.get (hk110.get0 (hk28.get0 (hk23.get0 (hk20.get0 hb10)))) (Nat.ne_of_gt (nt (nt ((BibIs.lt h _ (mem_blocks (List.mem_of_getElem? (i := 14) (rfl : g.blocks[14]? = some (g.p 2).mb))))) hk7.size) (Nat.le_refl _)))) (Nat.ne_of_lt (nt (nt (lt_of_get hb10) hz140) (Nat.le_refl _))))
            refine s_e0 (e_storeV (cs' := #[U0, U0, U0, U0, (Vi 0)]) [U0, U0, U0, U0, (Vi 0)] g135 (v := (.agg #[U0, U0, U0, U0, .int .i64 0])) rfl rfl sz34 hb141 rfl rfl rfl) ?_
            rintro _ w142 ⟨hb143, hk144⟩
            have ka145 := (Kp.fresh ka128 hk144 fun _ e => nl (nl hk7.size (Nat.le_refl _)) (Nat.le_of_eq e.symm))
            refine s_y (y_assign (v := (Vi 13)) rfl) rfl ?_
            refine s_nil (hK139 _ _ (genC [(6, (Vp w5.heap.size 0)), (7, (Vi 13))] ⟨g135, rfl, trivial⟩ ?_))
            clear hK139; rintro E ⟨g146, g147, -⟩
            refine ret (hret _ _ [(t4 (⟨(⟨0, 0, 0, 0⟩ : V4), 0⟩ : T4)), (Vi 13)] ⟨⟨_, g146, (rd_agg (vs := [U0, U0, U0, U0, (Vi 0)]) ag34 (On.now hb143) (by kernel_rfl) rfl)⟩, g147, trivial⟩ ?_)
            have hf148 := (BibIs.kp (BibIs.kp hBw114 hk127 (fun b hb => (fun e => (fun hb => Nat.lt_irrefl _ (nt (BibIs.lt h _ hb) (nl hz123 (Nat.le_refl _)))) (e ▸ hb))) (Nat.ne_of_lt (nt (nt (hT0.lt) hz123) (Nat.le_refl _)))) hk144 (fun b hb => (fun e => (fun hb => Nat.lt_irrefl _ (nt (BibIs.lt h _ hb) (nl hk7.size (Nat.le_refl _)))) (e ▸ hb))) (Nat.ne_of_lt (nt (nt (hT0.lt) hk7.size) (Nat.le_refl _))))
            exact ⟨.inl ⟨_, hr30, hq118, hf148, rfl⟩, ka145⟩
          · omega
        · have hBw114 := BibIs.pool_put hf113 (k := 2) (by omega) hp119 hk115
          have ka149 := (Kp.trans ka111 hk115 (fun _ _ e => e))
          have ks150 := (Kp.trans ks112 hk115 (fun _ _ e => e))
          refine ⟨ks150, ?_⟩
          refine o_y rfl (y_move (v := (.tuple #[(t4 t120), (Vi 0)])) rfl) ?_
          refine o_y rfl (y_ext rfl (v := (t4 t120)) rfl) ?_
          refine o_y rfl (y_ext rfl (v := (Vi 0)) rfl) ?_
          refine o_one ?_
          have hz151 := (nl (nl (nl (nl hk7.size hk11.size) hk20.size) hk23.size) hk28.size)
          have hb152 := (hk115.get hb109 (Nat.ne_of_gt (nt (nt ((BibIs.lt h _ (mem_blocks (List.mem_of_getElem? (i := 14) (rfl : g.blocks[14]? = some (g.p 2).mb))))) hz151) (Nat.le_refl _))))
          refine c_e0 rfl (e_storeV (cs' := t120.cs.toArray) t120.cs rfl (v := (t4 t120)) rfl rfl sz34 hb152 rfl rfl rfl) ?_
          rintro _ w153 ⟨hb154, hk155⟩
          have ka156 := (Kp.fresh ka149 hk155 fun _ e => nl (nl hz151 (Nat.le_refl _)) (Nat.le_of_eq e.symm))
          have ks157 := (Kp.fresh ks150 hk155 fun _ e => nl (nl (nl hk23.size hk28.size) (Nat.le_refl _)) (Nat.le_of_eq e.symm))
          refine ⟨ks157, ?_⟩
          refine o_y rfl (y_assign (v := (Vi 0)) rfl) ?_
          refine o_done (hK17 _ _ (genC [(6, (Vp w5.heap.size 0)), (8, (Vp w27.heap.size 0)), (9, (Vi 0))] ⟨g16, rfl, rfl, trivial⟩ ?_))
          clear hK17; rintro E ⟨g158, g159, g160, -⟩
          refine seq fun K161 hK161 => ?_
          refine seq fun K162 hK162 => ?_
          refine reg ?_
          refine s_y (y_move (v := (Vi 0)) g160) rfl ?_
          refine s_y (y_neq rfl rfl) rfl ?_
          refine s_nil (hK162 _ _ (genC [(6, (Vp w5.heap.size 0)), (8, (Vp w27.heap.size 0)), (30, Vf)] ⟨g158, g159, rfl, trivial⟩ ?_))
          clear hK162; rintro E ⟨g163, g164, g165, -⟩
          refine cond_f g165 ?_
          refine skip (hK161 _ _ (genC [(6, (Vp w5.heap.size 0)), (8, (Vp w27.heap.size 0))] ⟨g163, g164, trivial⟩ ?_))
          clear hK161; rintro E ⟨g166, g167, -⟩
          refine seq fun K168 hK168 => ?_
          refine reg ?_
          refine s_y (y_load (v := (t4 t120)) g167 (rd_agg (vs := t120.cs) ag34 (On.now hb154) (by kernel_rfl) rfl)) rfl ?_
          have hz169 := (nl (nl hk20.size hk23.size) hk28.size)
          have hb170 := (hk155.get (hk115.get (hk110.get0 (hk28.get0 (hk23.get0 (hk20.get0 hb10)))) (Nat.ne_of_gt (nt (nt ((BibIs.lt h _ (mem_blocks (List.mem_of_getElem? (i := 14) (rfl : g.blocks[14]? = some (g.p 2).mb))))) hk7.size) (Nat.le_refl _)))) (Nat.ne_of_lt (nt (nt (lt_of_get hb10) hz169) (Nat.le_refl _))))
          refine s_e0 (e_storeV (cs' := t120.cs.toArray) t120.cs g166 (v := (t4 t120)) rfl rfl sz34 hb170 rfl rfl rfl) ?_
          rintro _ w171 ⟨hb172, hk173⟩
          have ka174 := (Kp.fresh ka156 hk173 fun _ e => nl (nl hk7.size (Nat.le_refl _)) (Nat.le_of_eq e.symm))
          refine s_y (y_assign (v := (Vi 0)) rfl) rfl ?_
          refine s_nil (hK168 _ _ (genC [(6, (Vp w5.heap.size 0)), (7, (Vi 0))] ⟨g166, rfl, trivial⟩ ?_))
          clear hK168; rintro E ⟨g175, g176, -⟩
          refine ret (hret _ _ [(t4 t120), (Vi 0)] ⟨⟨_, g175, (rd_agg (vs := t120.cs) ag34 (On.now hb172) (by kernel_rfl) rfl)⟩, g176, trivial⟩ ?_)
          have hf177 := (BibIs.kp (BibIs.kp hBw114 hk155 (fun b hb => (fun e => (fun hb => Nat.lt_irrefl _ (nt (BibIs.lt h _ hb) (nl hz151 (Nat.le_refl _)))) (e ▸ hb))) (Nat.ne_of_lt (nt (nt (hT0.lt) hz151) (Nat.le_refl _)))) hk173 (fun b hb => (fun e => (fun hb => Nat.lt_irrefl _ (nt (BibIs.lt h _ hb) (nl hk7.size (Nat.le_refl _)))) (e ▸ hb))) (Nat.ne_of_lt (nt (nt (hT0.lt) hk7.size) (Nat.le_refl _))))
          exact ⟨.inr ⟨_, _, hr30, hq118, hf177, rfl⟩, ka174⟩
    · refine c_e rfl (e_alloc ze34) ?_
      rintro _ w178 ⟨rfl, hb179, hk180⟩
      have ka181 := (Kp.then0 ka24 hk180)
      have ks182 := (Kp.then0 ks25 hk180)
      refine ⟨ks182, ?_⟩
      refine o_one ?_
      have hf183 := (BibIs.k0 (BibIs.k0 (BibIs.k0 (BibIs.k0 (BibIs.k0 h hk7) hk11) hk20) hk23) hk180)
      refine c_e rfl (e_call ca84 (args := [(Vp g.tb 0), (v6 t.addr)]) rfl (pair_spec hf183 t.addr h1)) ?_
      rintro _ w184 ⟨⟨r186, rfl, hr187⟩, hk185⟩
      have ka188 := (Kp.then0 ka181 hk185)
      have ks189 := (Kp.then0 ks182 hk185)
      refine ⟨ks189, ?_⟩
      refine o_one ?_
      have hf190 := (BibIs.k0 hf183 hk185)
      refine c_e rfl (e_call ca83 (args := [(Vp ((g.p 2).pb) 0), (v4 r186), (Vi (t.port)), Vf]) rfl (take2_spec (BibIs.pool hf190 2 (by omega)) (ok.pool 2 (by omega)) r186 t.port (decide ((17 : Int) = 1)))) ?_
      rintro _ w191 ⟨⟨e193, he194, hq195, hp196, rfl⟩ | ⟨t197, hq195, hp196, rfl⟩, hk192⟩
      · have hBw191 := BibIs.pool_put hf190 (k := 2) (by omega) hp196 hk192
        have ka198 := (Kp.trans ka188 hk192 (fun _ _ e => e))
        have ks199 := (Kp.trans ks189 hk192 (fun _ _ e => e))
        refine ⟨ks199, ?_⟩
        refine o_y rfl (y_move (v := (.tuple #[(t4 zeroT4), (Vi e193)])) rfl) ?_
        refine o_y rfl (y_ext rfl (v := (t4 zeroT4)) rfl) ?_
        refine o_y rfl (y_ext rfl (v := (Vi e193)) rfl) ?_
        refine o_one ?_
        have hz200 := (nl (nl (nl hk7.size hk11.size) hk20.size) hk23.size)
        have hb201 := (hk192.get (hk185.get0 hb179) (Nat.ne_of_gt (nt (nt ((BibIs.lt h _ (mem_blocks (List.mem_of_getElem? (i := 14) (rfl : g.blocks[14]? = some (g.p 2).mb))))) hz200) (Nat.le_refl _))))
        refine c_e0 rfl (e_storeV (cs' := zeroT4.cs.toArray) zeroT4.cs rfl (v := (t4 zeroT4)) rfl rfl sz34 hb201 rfl rfl rfl) ?_
        rintro _ w202 ⟨hb203, hk204⟩
        have ka205 := (Kp.fresh ka198 hk204 fun _ e => nl (nl hz200 (Nat.le_refl _)) (Nat.le_of_eq e.symm))
        have ks206 := (Kp.fresh ks199 hk204 fun _ e => nl (nl hk23.size (Nat.le_refl _)) (Nat.le_of_eq e.symm))
        refine ⟨ks206, ?_⟩
        refine o_y rfl (y_assign (v := (Vi e193)) rfl) ?_
        refine o_done (hK17 _ _ (genC [(6, (Vp w5.heap.size 0)), (8, (Vp w22.heap.size 0)), (9, (Vi e193))] ⟨g16, rfl, rfl, trivial⟩ ?_))
        clear hK17; rintro E ⟨g207, g208, g209, -⟩
        refine seq fun K210 hK210 => ?_
        refine seq fun K211 hK211 => ?_
        refine reg ?_
        refine s_y (y_move (v := (Vi e193)) g209) rfl ?_
        refine s_y (y_neq rfl rfl) rfl ?_
        refine s_nil (hK211 _ _ (genC [(6, (Vp w5.heap.size 0)), (8, (Vp w22.heap.size 0)), (30, (.bool (decide ((e193 : Int) ≠ 0))))] ⟨g207, g208, rfl, trivial⟩ ?_))
        clear hK211; rintro E ⟨g212, g213, g214, -⟩
        refine cond_d g214 (fun c215 => ?_) (fun c215 => ?_)
        · refine seq fun K216 hK216 => ?_
          refine reg ?_
          refine s_y (y_build (vs := []) (v := (.agg #[U0, U0, U0, U0, .int .i64 0])) rfl (fun _ => by kernel_rfl)) rfl ?_
          have hb217 := (hk204.get (hk192.get (hk185.get0 (hk180.get0 (hk23.get0 (hk20.get0 hb10)))) (Nat.ne_of_gt (nt (nt ((BibIs.lt h _ (mem_blocks (List.mem_of_getElem? (i := 14) (rfl : g.blocks[14]? = some (g.p 2).mb))))) hk7.size) (Nat.le_refl _)))) (Nat.ne_of_lt (nt (nt (lt_of_get hb10) (nl hk20.size hk23.size)) (Nat.le_refl _))))
          refine s_e0 (e_storeV (cs' := #[U0, U0, U0, U0, (Vi 0)]) [U0, U0, U0, U0, (Vi 0)] g212 (v := (.agg #[U0, U0, U0, U0, .int .i64 0])) rfl rfl sz34 hb217 rfl rfl rfl) ?_
          rintro _ w218 ⟨hb219, hk220⟩
          have ka221 := (Kp.fresh ka205 hk220 fun _ e => nl (nl hk7.size (Nat.le_refl _)) (Nat.le_of_eq e.symm))
          refine s_y (y_assign (v := (Vi 13)) rfl) rfl ?_
          refine s_nil (hK216 _ _ (genC [(6, (Vp w5.heap.size 0)), (7, (Vi 13))] ⟨g212, rfl, trivial⟩ ?_))
          clear hK216; rintro E ⟨g222, g223, -⟩
          refine ret (hret _ _ [(t4 (⟨(⟨0, 0, 0, 0⟩ : V4), 0⟩ : T4)), (Vi 13)] ⟨⟨_, g222, (rd_agg (vs := [U0, U0, U0, U0, (Vi 0)]) ag34 (On.now hb219) (by kernel_rfl) rfl)⟩, g223, trivial⟩ ?_)
          have hf224 := (BibIs.kp (BibIs.kp hBw191 hk204 (fun b hb => (fun e => (fun hb => Nat.lt_irrefl _ (nt (BibIs.lt h _ hb) (nl hz200 (Nat.le_refl _)))) (e ▸ hb))) (Nat.ne_of_lt (nt (nt (hT0.lt) hz200) (Nat.le_refl _)))) hk220 (fun b hb => (fun e => (fun hb => Nat.lt_irrefl _ (nt (BibIs.lt h _ hb) (nl hk7.size (Nat.le_refl _)))) (e ▸ hb))) (Nat.ne_of_lt (nt (nt (hT0.lt) hk7.size) (Nat.le_refl _))))
          exact ⟨.inl ⟨_, hr187, hq195, hf224, rfl⟩, ka221⟩
        · omega
      · have hBw191 := BibIs.pool_put hf190 (k := 2) (by omega) hp196 hk192
        have ka225 := (Kp.trans ka188 hk192 (fun _ _ e => e))
        have ks226 := (Kp.trans ks189 hk192 (fun _ _ e => e))
        refine ⟨ks226, ?_⟩
        refine o_y rfl (y_move (v := (.tuple #[(t4 t197), (Vi 0)])) rfl) ?_
        refine o_y rfl (y_ext rfl (v := (t4 t197)) rfl) ?_
        refine o_y rfl (y_ext rfl (v := (Vi 0)) rfl) ?_
        refine o_one ?_
        have hz227 := (nl (nl (nl hk7.size hk11.size) hk20.size) hk23.size)
        have hb228 := (hk192.get (hk185.get0 hb179) (Nat.ne_of_gt (nt (nt ((BibIs.lt h _ (mem_blocks (List.mem_of_getElem? (i := 14) (rfl : g.blocks[14]? = some (g.p 2).mb))))) hz227) (Nat.le_refl _))))
        refine c_e0 rfl (e_storeV (cs' := t197.cs.toArray) t197.cs rfl (v := (t4 t197)) rfl rfl sz34 hb228 rfl rfl rfl) ?_
        rintro _ w229 ⟨hb230, hk231⟩
        have ka232 := (Kp.fresh ka225 hk231 fun _ e => nl (nl hz227 (Nat.le_refl _)) (Nat.le_of_eq e.symm))
        have ks233 := (Kp.fresh ks226 hk231 fun _ e => nl (nl hk23.size (Nat.le_refl _)) (Nat.le_of_eq e.symm))
        refine ⟨ks233, ?_⟩
        refine o_y rfl (y_assign (v := (Vi 0)) rfl) ?_
        refine o_done (hK17 _ _ (genC [(6, (Vp w5.heap.size 0)), (8, (Vp w22.heap.size 0)), (9, (Vi 0))] ⟨g16, rfl, rfl, trivial⟩ ?_))
        clear hK17; rintro E ⟨g234, g235, g236, -⟩
        refine seq fun K237 hK237 => ?_
        refine seq fun K238 hK238 => ?_
        refine reg ?_
        refine s_y (y_move (v := (Vi 0)) g236) rfl ?_
        refine s_y (y_neq rfl rfl) rfl ?_
        refine s_nil (hK238 _ _ (genC [(6, (Vp w5.heap.size 0)), (8, (Vp w22.heap.size 0)), (30, Vf)] ⟨g234, g235, rfl, trivial⟩ ?_))
        clear hK238; rintro E ⟨g239, g240, g241, -⟩
        refine cond_f g241 ?_
        refine skip (hK237 _ _ (genC [(6, (Vp w5.heap.size 0)), (8, (Vp w22.heap.size 0))] ⟨g239, g240, trivial⟩ ?_))
        clear hK237; rintro E ⟨g242, g243, -⟩
        refine seq fun K244 hK244 => ?_
        refine reg ?_
        refine s_y (y_load (v := (t4 t197)) g243 (rd_agg (vs := t197.cs) ag34 (On.now hb230) (by kernel_rfl) rfl)) rfl ?_
        have hb245 := (hk231.get (hk192.get (hk185.get0 (hk180.get0 (hk23.get0 (hk20.get0 hb10)))) (Nat.ne_of_gt (nt (nt ((BibIs.lt h _ (mem_blocks (List.mem_of_getElem? (i := 14) (rfl : g.blocks[14]? = some (g.p 2).mb))))) hk7.size) (Nat.le_refl _)))) (Nat.ne_of_lt (nt (nt (lt_of_get hb10) (nl hk20.size hk23.size)) (Nat.le_refl _))))
        refine s_e0 (e_storeV (cs' := t197.cs.toArray) t197.cs g242 (v := (t4 t197)) rfl rfl sz34 hb245 rfl rfl rfl) ?_
        rintro _ w246 ⟨hb247, hk248⟩
        have ka249 := (Kp.fresh ka232 hk248 fun _ e => nl (nl hk7.size (Nat.le_refl _)) (Nat.le_of_eq e.symm))
        refine s_y (y_assign (v := (Vi 0)) rfl) rfl ?_
        refine s_nil (hK244 _ _ (genC [(6, (Vp w5.heap.size 0)), (7, (Vi 0))] ⟨g242, rfl, trivial⟩ ?_))
        clear hK244; rintro E ⟨g250, g251, -⟩
        refine ret (hret _ _ [(t4 t197), (Vi 0)] ⟨⟨_, g250, (rd_agg (vs := t197.cs) ag34 (On.now hb247) (by kernel_rfl) rfl)⟩, g251, trivial⟩ ?_)
        have hf252 := (BibIs.kp (BibIs.kp hBw191 hk231 (fun b hb => (fun e => (fun hb => Nat.lt_irrefl _ (nt (BibIs.lt h _ hb) (nl hz227 (Nat.le_refl _)))) (e ▸ hb))) (Nat.ne_of_lt (nt (nt (hT0.lt) hz227) (Nat.le_refl _)))) hk248 (fun b hb => (fun e => (fun hb => Nat.lt_irrefl _ (nt (BibIs.lt h _ hb) (nl hk7.size (Nat.le_refl _)))) (e ▸ hb))) (Nat.ne_of_lt (nt (nt (hT0.lt) hk7.size) (Nat.le_refl _))))
        exact ⟨.inr ⟨_, _, hr187, hq195, hf252, rfl⟩, ka249⟩
  · refine c_e rfl (e_alloc ze34) ?_
    rintro _ w253 ⟨rfl, hb254, hk255⟩
    have ka256 := (Kp.then0 ka21 hk255)
    have ks257 : Kp (· = (g.p 2).mb) w18 w253 := (Kp.then0 (Kp.refl _ _) hk255)
    refine ⟨ks257, ?_⟩
    refine o_one ?_
    refine c_e rfl (e_call ca51 (args := [(Vi 17)]) rfl (kind_spec 17 _)) ?_
    rintro _ w258 ⟨rfl, hk259⟩
    have ka260 := (Kp.then0 ka256 hk259)
    have ks261 := (Kp.then0 ks257 hk259)
    refine ⟨ks261, ?_⟩
    refine o_y rfl (y_idxA ao93 sz92 rfl (i := 2) rfl (by omega)) ?_
    refine o_y rfl (y_load (v := (Vp ((g.p 2).pb) 0)) rfl (rd_sc sc92 (On.kp (hk20.get0 (hk11.get0 (hk7.get0 hb0))) (blocks_ne h.nd (i := 0) (j := 14) (by decide) rfl rfl)) rfl)) ?_
    refine o_one ?_
    have hf262 := (BibIs.k0 (BibIs.k0 (BibIs.k0 (BibIs.k0 (BibIs.k0 h hk7) hk11) hk20) hk255) hk259)
    refine c_e rfl (e_call ca84 (args := [(Vp g.tb 0), (v6 t.addr)]) rfl (pair_spec hf262 t.addr h1)) ?_
    rintro _ w263 ⟨⟨r265, rfl, hr266⟩, hk264⟩
    have ka267 := (Kp.then0 ka260 hk264)
    have ks268 := (Kp.then0 ks261 hk264)
    refine ⟨ks268, ?_⟩
    refine o_one ?_
    have hf269 := (BibIs.k0 hf262 hk264)
    refine c_e rfl (e_call ca83 (args := [(Vp ((g.p 2).pb) 0), (v4 r265), (Vi (t.port)), Vf]) rfl (take2_spec (BibIs.pool hf269 2 (by omega)) (ok.pool 2 (by omega)) r265 t.port (decide ((17 : Int) = 1)))) ?_
    rintro _ w270 ⟨⟨e272, he273, hq274, hp275, rfl⟩ | ⟨t276, hq274, hp275, rfl⟩, hk271⟩
    · have hBw270 := BibIs.pool_put hf269 (k := 2) (by omega) hp275 hk271
      have ka277 := (Kp.trans ka267 hk271 (fun _ _ e => e))
      have ks278 := (Kp.trans ks268 hk271 (fun _ _ e => e))
      refine ⟨ks278, ?_⟩
      refine o_y rfl (y_move (v := (.tuple #[(t4 zeroT4), (Vi e272)])) rfl) ?_
      refine o_y rfl (y_ext rfl (v := (t4 zeroT4)) rfl) ?_
      refine o_y rfl (y_ext rfl (v := (Vi e272)) rfl) ?_
      refine o_one ?_
      have hz279 := (nl (nl hk7.size hk11.size) hk20.size)
      have hb280 := (hk271.get (hk264.get0 (hk259.get0 hb254)) (Nat.ne_of_gt (nt (nt ((BibIs.lt h _ (mem_blocks (List.mem_of_getElem? (i := 14) (rfl : g.blocks[14]? = some (g.p 2).mb))))) hz279) (Nat.le_refl _))))
      refine c_e0 rfl (e_storeV (cs' := zeroT4.cs.toArray) zeroT4.cs rfl (v := (t4 zeroT4)) rfl rfl sz34 hb280 rfl rfl rfl) ?_
      rintro _ w281 ⟨hb282, hk283⟩
      have ka284 := (Kp.fresh ka277 hk283 fun _ e => nl (nl hz279 (Nat.le_refl _)) (Nat.le_of_eq e.symm))
      have ks285 := (Kp.fresh ks278 hk283 fun _ e => nl (nl (Nat.le_refl _) (Nat.le_refl _)) (Nat.le_of_eq e.symm))
      refine ⟨ks285, ?_⟩
      refine o_y rfl (y_assign (v := (Vi e272)) rfl) ?_
      refine o_done (hK17 _ _ (genC [(6, (Vp w5.heap.size 0)), (8, (Vp w18.heap.size 0)), (9, (Vi e272))] ⟨g16, rfl, rfl, trivial⟩ ?_))
      clear hK17; rintro E ⟨g286, g287, g288, -⟩
      refine seq fun K289 hK289 => ?_
      refine seq fun K290 hK290 => ?_
      refine reg ?_
      refine s_y (y_move (v := (Vi e272)) g288) rfl ?_
      refine s_y (y_neq rfl rfl) rfl ?_
      refine s_nil (hK290 _ _ (genC [(6, (Vp w5.heap.size 0)), (8, (Vp w18.heap.size 0)), (30, (.bool (decide ((e272 : Int) ≠ 0))))] ⟨g286, g287, rfl, trivial⟩ ?_))
      clear hK290; rintro E ⟨g291, g292, g293, -⟩
      refine cond_d g293 (fun c294 => ?_) (fun c294 => ?_)
      · refine seq fun K295 hK295 => ?_
        refine reg ?_
        refine s_y (y_build (vs := []) (v := (.agg #[U0, U0, U0, U0, .int .i64 0])) rfl (fun _ => by kernel_rfl)) rfl ?_
        have hb296 := (hk283.get (hk271.get (hk264.get0 (hk259.get0 (hk255.get0 (hk20.get0 hb10)))) (Nat.ne_of_gt (nt (nt ((BibIs.lt h _ (mem_blocks (List.mem_of_getElem? (i := 14) (rfl : g.blocks[14]? = some (g.p 2).mb))))) hk7.size) (Nat.le_refl _)))) (Nat.ne_of_lt (nt (nt (lt_of_get hb10) hk20.size) (Nat.le_refl _))))
        refine s_e0 (e_storeV (cs' := #[U0, U0, U0, U0, (Vi 0)]) [U0, U0, U0, U0, (Vi 0)] g291 (v := (.agg #[U0, U0, U0, U0, .int .i64 0])) rfl rfl sz34 hb296 rfl rfl rfl) ?_
        rintro _ w297 ⟨hb298, hk299⟩
        have ka300 := (Kp.fresh ka284 hk299 fun _ e => nl (nl hk7.size (Nat.le_refl _)) (Nat.le_of_eq e.symm))
        refine s_y (y_assign (v := (Vi 13)) rfl) rfl ?_
        refine s_nil (hK295 _ _ (genC [(6, (Vp w5.heap.size 0)), (7, (Vi 13))] ⟨g291, rfl, trivial⟩ ?_))
        clear hK295; rintro E ⟨g301, g302, -⟩
        refine ret (hret _ _ [(t4 (⟨(⟨0, 0, 0, 0⟩ : V4), 0⟩ : T4)), (Vi 13)] ⟨⟨_, g301, (rd_agg (vs := [U0, U0, U0, U0, (Vi 0)]) ag34 (On.now hb298) (by kernel_rfl) rfl)⟩, g302, trivial⟩ ?_)
        have hf303 := (BibIs.kp (BibIs.kp hBw270 hk283 (fun b hb => (fun e => (fun hb => Nat.lt_irrefl _ (nt (BibIs.lt h _ hb) (nl hz279 (Nat.le_refl _)))) (e ▸ hb))) (Nat.ne_of_lt (nt (nt (hT0.lt) hz279) (Nat.le_refl _)))) hk299 (fun b hb => (fun e => (fun hb => Nat.lt_irrefl _ (nt (BibIs.lt h _ hb) (nl hk7.size (Nat.le_refl _)))) (e ▸ hb))) (Nat.ne_of_lt (nt (nt (hT0.lt) hk7.size) (Nat.le_refl _))))
        exact ⟨.inl ⟨_, hr266, hq274, hf303, rfl⟩, ka300⟩
      · omega
    · have hBw270 := BibIs.pool_put hf269 (k := 2) (by omega) hp275 hk271
      have ka304 := (Kp.trans ka267 hk271 (fun _ _ e => e))
      have ks305 := (Kp.trans ks268 hk271 (fun _ _ e => e))
      refine ⟨ks305, ?_⟩
      refine o_y rfl (y_move (v := (.tuple #[(t4 t276), (Vi 0)])) rfl) ?_
      refine o_y rfl (y_ext rfl (v := (t4 t276)) rfl) ?_
      refine o_y rfl (y_ext rfl (v := (Vi 0)) rfl) ?_
      refine o_one ?_
      have hz306 := (nl (nl hk7.size hk11.size) hk20.size)
      have hb307 := (hk271.get (hk264.get0 (hk259.get0 hb254)) (Nat.ne_of_gt (nt (nt ((BibIs.lt h _ (mem_blocks (List.mem_of_getElem? (i := 14) (rfl : g.blocks[14]? = some (g.p 2).mb))))) hz306) (Nat.le_refl _))))
      refine c_e0 rfl (e_storeV (cs' := t276.cs.toArray) t276.cs rfl (v := (t4 t276)) rfl rfl sz34 hb307 rfl rfl rfl) ?_
      rintro _ w308 ⟨hb309, hk310⟩
      have ka311 := (Kp.fresh ka304 hk310 fun _ e => nl (nl hz306 (Nat.le_refl _)) (Nat.le_of_eq e.symm))
      have ks312 := (Kp.fresh ks305 hk310 fun _ e => nl (nl (Nat.le_refl _) (Nat.le_refl _)) (Nat.le_of_eq e.symm))
      refine ⟨ks312, ?_⟩
      refine o_y rfl (y_assign (v := (Vi 0)) rfl) ?_
      refine o_done (hK17 _ _ (genC [(6, (Vp w5.heap.size 0)), (8, (Vp w18.heap.size 0)), (9, (Vi 0))] ⟨g16, rfl, rfl, trivial⟩ ?_))
      clear hK17; rintro E ⟨g313, g314, g315, -⟩
      refine seq fun K316 hK316 => ?_
      refine seq fun K317 hK317 => ?_
      refine reg ?_
      refine s_y (y_move (v := (Vi 0)) g315) rfl ?_
      refine s_y (y_neq rfl rfl) rfl ?_
      refine s_nil (hK317 _ _ (genC [(6, (Vp w5.heap.size 0)), (8, (Vp w18.heap.size 0)), (30, Vf)] ⟨g313, g314, rfl, trivial⟩ ?_))
      clear hK317; rintro E ⟨g318, g319, g320, -⟩
      refine cond_f g320 ?_
      refine skip (hK316 _ _ (genC [(6, (Vp w5.heap.size 0)), (8, (Vp w18.heap.size 0))] ⟨g318, g319, trivial⟩ ?_))
      clear hK316; rintro E ⟨g321, g322, -⟩
      refine seq fun K323 hK323 => ?_
      refine reg ?_
      refine s_y (y_load (v := (t4 t276)) g322 (rd_agg (vs := t276.cs) ag34 (On.now hb309) (by kernel_rfl) rfl)) rfl ?_
      have hb324 := (hk310.get (hk271.get (hk264.get0 (hk259.get0 (hk255.get0 (hk20.get0 hb10)))) (Nat.ne_of_gt (nt (nt ((BibIs.lt h _ (mem_blocks (List.mem_of_getElem? (i := 14) (rfl : g.blocks[14]? = some (g.p 2).mb))))) hk7.size) (Nat.le_refl _)))) (Nat.ne_of_lt (nt (nt (lt_of_get hb10) hk20.size) (Nat.le_refl _))))
      refine s_e0 (e_storeV (cs' := t276.cs.toArray) t276.cs g321 (v := (t4 t276)) rfl rfl sz34 hb324 rfl rfl rfl) ?_
      rintro _ w325 ⟨hb326, hk327⟩
      have ka328 := (Kp.fresh ka311 hk327 fun _ e => nl (nl hk7.size (Nat.le_refl _)) (Nat.le_of_eq e.symm))
      refine s_y (y_assign (v := (Vi 0)) rfl) rfl ?_
      refine s_nil (hK323 _ _ (genC [(6, (Vp w5.heap.size 0)), (7, (Vi 0))] ⟨g321, rfl, trivial⟩ ?_))
      clear hK323; rintro E ⟨g329, g330, -⟩
      refine ret (hret _ _ [(t4 t276), (Vi 0)] ⟨⟨_, g329, (rd_agg (vs := t276.cs) ag34 (On.now hb326) (by kernel_rfl) rfl)⟩, g330, trivial⟩ ?_)
      have hf331 := (BibIs.kp (BibIs.kp hBw270 hk310 (fun b hb => (fun e => (fun hb => Nat.lt_irrefl _ (nt (BibIs.lt h _ hb) (nl hz306 (Nat.le_refl _)))) (e ▸ hb))) (Nat.ne_of_lt (nt (nt (hT0.lt) hz306) (Nat.le_refl _)))) hk327 (fun b hb => (fun e => (fun hb => Nat.lt_irrefl _ (nt (BibIs.lt h _ hb) (nl hk7.size (Nat.le_refl _)))) (e ▸ hb))) (Nat.ne_of_lt (nt (nt (hT0.lt) hk7.size) (Nat.le_refl _))))
      exact ⟨.inr ⟨_, _, hr266, hq274, hf331, rfl⟩, ka328⟩

end Go.Proofs.YtdcnblafepgheaaDoor
