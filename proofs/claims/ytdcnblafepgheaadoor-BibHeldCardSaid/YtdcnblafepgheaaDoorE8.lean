/-
  Written by a program (wip/walks).
-/
import Derived.Test.YtdcnblafepgheaaDoorE7
namespace Go.Proofs.YtdcnblafepgheaaDoor
open Go Go.V
set_option maxRecDepth 100000
theorem aget_idl (l : List (Binding × Nat)) (id : Int) : aget (idl l) id = (lookId l id).map (·.2) := by
  induction l with
  | nil => rfl
  | cons q l ih =>
    unfold idl lookId at *
    rw [List.map_cons, List.find?_cons]
    unfold aget
    by_cases h : q.1.id = id
    · simp [h]
    · simp only [h, if_false, decide_false]; exact ih
theorem lookId_id {l : List (Binding × Nat)} {id : Int} {q : Binding × Nat} (h : lookId l id = some q) : q.1.id = id := by
  have := List.find?_some h; simpa using this
theorem idl_inv {l : List (Binding × Nat)} {p : Int × Nat} (h : p ∈ idl l) : ∃ q, q ∈ l ∧ p = (q.1.id, q.2) := by
  obtain ⟨q, hq, e⟩ := List.mem_map.1 h; exact ⟨q, hq, e.symm⟩
def mayE (g : BibG) (st : BibS) (p : Int) (t : T6) : Int :=
  if kindI p < 0 then 10 else if isPort t.port then (if (lookIn st.l p t).isSome then 5 else if g.max ≤ st.l.length then 6 else 0) else 1
theorem idb_none {g : BibG} {st : BibS} {w : World} (h : BibIs g st w) (n : Int) (hid : -9223372036854775808 ≤ n ∧ n ≤ 9223372036854775807) (hl : lookId st.l n = none) : Rets Tryd.prog 24 #[(.pointer (some ⟨g.tb, 0, none⟩)), (.int .i64 n)] w fun v w' => v = .tuple #[bv zeroB, .bool false] ∧ K0 w w' := by
  refine enter Tryd.func24 rfl Tryd.ntmps24 rfl fun Q hret hend E hE => ?_
  have g1 : E 0 = (Vp g.tb 0) := hE 0
  have g2 : E 1 = (Vi n) := hE 1
  clear hE
  have hb0 := h.blk; have hm0 := h.map; have hT0 := h.tb; have hn1 : g.tb ≠ g.mb := blk_ne_map h.blk h.map
  have hag : aget (idl st.l) n = none := by rw [aget_idl, hl]; rfl
  refine seq fun K3 hK3 => ?_
  refine reg ?_
  refine s_e (e_alloc ze36) rfl ?_
  rintro _ w4 ⟨rfl, hb5, hk6⟩
  have ka7 : Kp (fun _ => False) w w4 := (Kp.then0 (Kp.refl _ _) hk6)
  refine s_y (y_assign (v := Vf) rfl) rfl ?_
  refine s_nil (hK3 _ _ (genC [(0, (Vp g.tb 0)), (1, (Vi n)), (4, (Vp w.heap.size 0))] ⟨g1, g2, rfl, trivial⟩ ?_))
  clear hK3; rintro E ⟨g8, g9, g10, -⟩
  refine seq fun K11 hK11 => ?_
  refine seq fun K12 hK12 => ?_
  refine reg ?_
  refine s_y (y_move (v := (Vp g.tb 0)) g8) rfl ?_
  have hf13 := (BibIs.k0 h hk6)
  refine s_e (e_call ca49 (args := [(Vp g.tb 0)]) rfl (bnone_spec hf13)) rfl ?_
  rintro _ w14 ⟨rfl, hk15⟩
  have ka16 := (Kp.then0 ka7 hk15)
  refine s_nil (hK12 _ _ (genC [(0, (Vp g.tb 0)), (1, (Vi n)), (4, (Vp w.heap.size 0)), (9, Vf)] ⟨g8, g9, g10, rfl, trivial⟩ ?_))
  clear hK12; rintro E ⟨g17, g18, g19, g20, -⟩
  refine cond_f g20 ?_
  refine skip (hK11 _ _ (genC [(0, (Vp g.tb 0)), (1, (Vi n)), (4, (Vp w.heap.size 0))] ⟨g17, g18, g19, trivial⟩ ?_))
  clear hK11; rintro E ⟨g21, g22, g23, -⟩
  refine seq fun K24 hK24 => ?_
  refine reg ?_
  refine s_y (y_move (v := (Vp g.tb 0)) g21) rfl ?_
  refine s_y (y_nil rfl) rfl ?_
  refine s_y (y_fld fo95_3 rfl) rfl ?_
  have hb25 := (hk15.get0 (hk6.get0 hb0))
  refine s_y (y_load (v := (.map (some g.mb))) rfl (rd_sc sc91 (On.now hb25) rfl)) rfl ?_
  refine s_y (y_move (v := (Vi n)) g22) rfl ?_
  have hf26 := ((hm0.kp hk6 id).kp hk15 id)
  refine s_y (y_lookup2_none kf3 Tryd.underlying91 ze101 (MapOn.now hf26) rfl rfl (show inI n from inI_of (by omega) (by omega)) hag) rfl ?_
  refine s_y (y_move (v := (.tuple #[(.pointer none), Vf])) rfl) rfl ?_
  refine s_y (y_ext rfl (v := (.pointer none)) rfl) rfl ?_
  refine s_y (y_ext rfl (v := Vf) rfl) rfl ?_
  refine s_y (y_assign (v := (.pointer none)) rfl) rfl ?_
  refine s_y (y_assign (v := Vf) rfl) rfl ?_
  refine s_nil (hK24 _ _ (genC [(0, (Vp g.tb 0)), (1, (Vi n)), (4, (Vp w.heap.size 0)), (7, Vf)] ⟨g21, g22, g23, rfl, trivial⟩ ?_))
  clear hK24; rintro E ⟨g27, g28, g29, g30, -⟩
  refine seq fun K31 hK31 => ?_
  refine reg ?_
  refine s_y (y_move (v := (Vp g.tb 0)) g27) rfl ?_
  refine s_y (y_move (v := (Vi n)) g28) rfl ?_
  refine s_y (y_move (v := Vf) g30) rfl ?_
  have hf32 := (BibIs.k0 hf13 hk15)
  refine s_e (e_call ca59 (args := [(Vp g.tb 0), (Vi n), Vf]) rfl (told_none hf32 n)) rfl ?_
  rintro _ w33 ⟨rfl, hk34⟩
  have ka35 := (Kp.then0 ka16 hk34)
  refine s_y (y_ext rfl (v := (bv zeroB)) rfl) rfl ?_
  refine s_y (y_ext rfl (v := Vf) rfl) rfl ?_
  have hb36 := (hk34.get0 (hk15.get0 hb5))
  refine s_e0 (e_storeV (cs' := zeroB.cs.toArray) zeroB.cs g29 (v := (bv zeroB)) rfl rfl sz36 hb36 rfl rfl rfl) ?_
  rintro _ w37 ⟨hb38, hk39⟩
  have ka40 := (Kp.fresh ka35 hk39 fun _ e => nl (nl (Nat.le_refl _) (Nat.le_refl _)) (Nat.le_of_eq e.symm))
  refine s_y (y_assign (v := Vf) rfl) rfl ?_
  refine s_nil (hK31 _ _ (genC [(4, (Vp w.heap.size 0)), (5, Vf)] ⟨g29, rfl, trivial⟩ ?_))
  clear hK31; rintro E ⟨g41, g42, -⟩
  refine ret (hret _ _ [(bv zeroB), Vf] ⟨⟨_, g41, (rd_agg (vs := zeroB.cs) ag36 (On.now hb38) (by kernel_rfl) rfl)⟩, g42, trivial⟩ ?_)
  exact ⟨rfl, ka40⟩

theorem idb_some {g : BibG} {st : BibS} {w : World} (h : BibIs g st w) (q : Binding × Nat) (hq : q ∈ st.l) : Rets Tryd.prog 24 #[(.pointer (some ⟨g.tb, 0, none⟩)), (.int .i64 (q.1.id))] w fun v w' => v = .tuple #[bv q.1, .bool true] ∧ K0 w w' := by
  refine enter Tryd.func24 rfl Tryd.ntmps24 rfl fun Q hret hend E hE => ?_
  have g1 : E 0 = (Vp g.tb 0) := hE 0
  have g2 : E 1 = (Vi (q.1.id)) := hE 1
  clear hE
  have hb0 := h.blk; have hm0 := h.map; have hT0 := h.tb; have hn1 : g.tb ≠ g.mb := blk_ne_map h.blk h.map
  have hag := h.aget hq; have hq3 := h.good hq; unfold inI at hq3
  refine seq fun K3 hK3 => ?_
  refine reg ?_
  refine s_e (e_alloc ze36) rfl ?_
  rintro _ w4 ⟨rfl, hb5, hk6⟩
  have ka7 : Kp (fun _ => False) w w4 := (Kp.then0 (Kp.refl _ _) hk6)
  refine s_y (y_assign (v := Vf) rfl) rfl ?_
  refine s_nil (hK3 _ _ (genC [(0, (Vp g.tb 0)), (1, (Vi (q.1.id))), (4, (Vp w.heap.size 0))] ⟨g1, g2, rfl, trivial⟩ ?_))
  clear hK3; rintro E ⟨g8, g9, g10, -⟩
  refine seq fun K11 hK11 => ?_
  refine seq fun K12 hK12 => ?_
  refine reg ?_
  refine s_y (y_move (v := (Vp g.tb 0)) g8) rfl ?_
  have hf13 := (BibIs.k0 h hk6)
  refine s_e (e_call ca49 (args := [(Vp g.tb 0)]) rfl (bnone_spec hf13)) rfl ?_
  rintro _ w14 ⟨rfl, hk15⟩
  have ka16 := (Kp.then0 ka7 hk15)
  refine s_nil (hK12 _ _ (genC [(0, (Vp g.tb 0)), (1, (Vi (q.1.id))), (4, (Vp w.heap.size 0)), (9, Vf)] ⟨g8, g9, g10, rfl, trivial⟩ ?_))
  clear hK12; rintro E ⟨g17, g18, g19, g20, -⟩
  refine cond_f g20 ?_
  refine skip (hK11 _ _ (genC [(0, (Vp g.tb 0)), (1, (Vi (q.1.id))), (4, (Vp w.heap.size 0))] ⟨g17, g18, g19, trivial⟩ ?_))
  clear hK11; rintro E ⟨g21, g22, g23, -⟩
  refine seq fun K24 hK24 => ?_
  refine reg ?_
  refine s_y (y_move (v := (Vp g.tb 0)) g21) rfl ?_
  refine s_y (y_nil rfl) rfl ?_
  refine s_y (y_fld fo95_3 rfl) rfl ?_
  have hb25 := (hk15.get0 (hk6.get0 hb0))
  refine s_y (y_load (v := (.map (some g.mb))) rfl (rd_sc sc91 (On.now hb25) rfl)) rfl ?_
  refine s_y (y_move (v := (Vi (q.1.id))) g22) rfl ?_
  have hf26 := ((hm0.kp hk6 id).kp hk15 id)
  refine s_y (y_lookup2_some kf3 Tryd.underlying91 ze101 (MapOn.now hf26) rfl rfl (show inI q.1.id from inI_of (by omega) (by omega)) hag) rfl ?_
  refine s_y (y_move (v := (.tuple #[(Vp q.2 0), Vt])) rfl) rfl ?_
  refine s_y (y_ext rfl (v := (Vp q.2 0)) rfl) rfl ?_
  refine s_y (y_ext rfl (v := Vt) rfl) rfl ?_
  refine s_y (y_assign (v := (Vp q.2 0)) rfl) rfl ?_
  refine s_y (y_assign (v := Vt) rfl) rfl ?_
  refine s_nil (hK24 _ _ (genC [(0, (Vp g.tb 0)), (1, (Vi (q.1.id))), (4, (Vp w.heap.size 0)), (7, Vt)] ⟨g21, g22, g23, rfl, trivial⟩ ?_))
  clear hK24; rintro E ⟨g27, g28, g29, g30, -⟩
  refine seq fun K31 hK31 => ?_
  refine reg ?_
  refine s_y (y_move (v := (Vp g.tb 0)) g27) rfl ?_
  refine s_y (y_move (v := (Vi (q.1.id))) g28) rfl ?_
  refine s_y (y_move (v := Vt) g30) rfl ?_
  have hf32 := (BibIs.k0 hf13 hk15)
  refine s_e (e_call ca59 (args := [(Vp g.tb 0), (Vi (q.1.id)), Vt]) rfl (told_some hf32 q hq)) rfl ?_
  rintro _ w33 ⟨rfl, hk34⟩
  have ka35 := (Kp.then0 ka16 hk34)
  refine s_y (y_ext rfl (v := (bv q.1)) rfl) rfl ?_
  refine s_y (y_ext rfl (v := Vt) rfl) rfl ?_
  have hb36 := (hk34.get0 (hk15.get0 hb5))
  refine s_e0 (e_storeV (cs' := q.1.cs.toArray) q.1.cs g29 (v := (bv q.1)) rfl rfl sz36 hb36 rfl rfl rfl) ?_
  rintro _ w37 ⟨hb38, hk39⟩
  have ka40 := (Kp.fresh ka35 hk39 fun _ e => nl (nl (Nat.le_refl _) (Nat.le_refl _)) (Nat.le_of_eq e.symm))
  refine s_y (y_assign (v := Vt) rfl) rfl ?_
  refine s_nil (hK31 _ _ (genC [(4, (Vp w.heap.size 0)), (5, Vt)] ⟨g29, rfl, trivial⟩ ?_))
  clear hK31; rintro E ⟨g41, g42, -⟩
  refine ret (hret _ _ [(bv q.1), Vt] ⟨⟨_, g41, (rd_agg (vs := q.1.cs) ag36 (On.now hb38) (by kernel_rfl) rfl)⟩, g42, trivial⟩ ?_)
  exact ⟨rfl, ka40⟩

theorem mayb_spec {g : BibG} {st : BibS} {w : World} (ok : BibOk g) (h : BibIs g st w) (p : Int) (t : T6) (hp : -9223372036854775808 ≤ p ∧ p ≤ 9223372036854775807) (ht : -9223372036854775808 ≤ t.port ∧ t.port ≤ 9223372036854775807) : Rets Tryd.prog 46 #[(.pointer (some ⟨g.tb, 0, none⟩)), (.int .i64 p), (t6 t)] w fun v w' => v = .int .i64 (mayE g st p t) ∧ K0 w w' := by
  refine enter Tryd.func46 rfl Tryd.ntmps46 rfl fun Q hret hend E hE => ?_
  have g1 : E 0 = (Vp g.tb 0) := hE 0
  have g2 : E 1 = (Vi p) := hE 1
  have g3 : E 2 = (t6 t) := hE 2
  clear hE
  have hb0 := h.blk; have hm0 := h.map; have hT0 := h.tb; have hn1 : g.tb ≠ g.mb := blk_ne_map h.blk h.map
  refine seq fun K4 hK4 => ?_
  refine reg ?_
  refine s_e (e_box (v := (t6 t)) g3) rfl ?_
  rintro _ w5 ⟨rfl, hb6, hk7⟩
  have ka8 : Kp (fun _ => False) w w5 := (Kp.then0 (Kp.refl _ _) hk7)
  refine s_y (y_assign (v := (Vi 0)) rfl) rfl ?_
  refine s_nil (hK4 _ _ (genC [(0, (Vp g.tb 0)), (1, (Vi p)), (5, (Vp w.heap.size 0))] ⟨g1, g2, rfl, trivial⟩ ?_))
  clear hK4; rintro E ⟨g9, g10, g11, -⟩
  refine seq fun K12 hK12 => ?_
  refine block ?_
  refine seq fun K13 hK13 => ?_
  refine reg ?_
  refine s_y (y_move (v := (Vp g.tb 0)) g9) rfl ?_
  have hf14 := (BibIs.k0 h hk7)
  refine s_e (e_call ca49 (args := [(Vp g.tb 0)]) rfl (bnone_spec hf14)) rfl ?_
  rintro _ w15 ⟨rfl, hk16⟩
  have ka17 := (Kp.then0 ka8 hk16)
  refine s_y (y_assign (v := Vf) rfl) rfl ?_
  refine s_nil (hK13 _ _ (genC [(0, (Vp g.tb 0)), (1, (Vi p)), (5, (Vp w.heap.size 0)), (9, Vf)] ⟨g9, g10, g11, rfl, trivial⟩ ?_))
  clear hK13; rintro E ⟨g18, g19, g20, g21, -⟩
  refine cond_f g21 ?_
  refine seq fun K22 hK22 => ?_
  refine reg ?_
  refine s_y (y_move (v := (Vi p)) g19) rfl ?_
  refine s_e (e_call ca51 (args := [(Vi p)]) rfl (kind_spec p _)) rfl ?_
  rintro _ w23 ⟨rfl, hk24⟩
  have ka25 := (Kp.then0 ka17 hk24)
  refine s_y (y_lss rfl rfl) rfl ?_
  refine s_y (y_assign (v := (.bool (decide (((kindI p) : Int) < 0)))) rfl) rfl ?_
  refine s_nil (hK22 _ _ (genC [(0, (Vp g.tb 0)), (1, (Vi p)), (5, (Vp w.heap.size 0)), (12, (.bool (decide (((kindI p) : Int) < 0))))] ⟨g18, g19, g20, rfl, trivial⟩ ?_))
  clear hK22; rintro E ⟨g26, g27, g28, g29, -⟩
  refine cond_d g29 (fun c30 => ?_) (fun c30 => ?_)
  · refine seq fun K31 hK31 => ?_
    refine reg ?_
    refine s_y (y_assign (v := (Vi 10)) rfl) rfl ?_
    refine s_nil (hK31 _ _ (genC [(6, (Vi 10))] ⟨rfl, trivial⟩ ?_))
    clear hK31; rintro E ⟨g32, -⟩
    refine ret (hret _ _ [(Vi 10)] ⟨g32, trivial⟩ ?_)
    refine ⟨congrArg (Value.int .i64) ?_, ka25⟩
    grind [mayE]
  · refine seq fun K33 hK33 => ?_
    refine reg ?_
    refine s_y (y_fld fo32_1 g28) rfl ?_
    have hb34 := (hk24.get0 (hk16.get0 hb6))
    refine s_y (y_load (v := (Vi (t.port))) rfl (rd_sc sc3 (On.now hb34) rfl)) rfl ?_
    refine s_e (e_call ca53 (args := [(Vi (t.port))]) rfl (bport_spec t.port _)) rfl ?_
    rintro _ w35 ⟨rfl, hk36⟩
    have ka37 := (Kp.then0 ka25 hk36)
    refine s_y (y_notd rfl) rfl ?_
    refine s_y (y_assign (v := (.bool (decide (¬ (isPort t.port))))) rfl) rfl ?_
    refine s_nil (hK33 _ _ (genC [(0, (Vp g.tb 0)), (1, (Vi p)), (5, (Vp w.heap.size 0)), (16, (.bool (decide (¬ (isPort t.port)))))] ⟨g26, g27, g28, rfl, trivial⟩ ?_))
    clear hK33; rintro E ⟨g38, g39, g40, g41, -⟩
    refine cond_d g41 (fun c42 => ?_) (fun c42 => ?_)
    · refine seq fun K43 hK43 => ?_
      refine reg ?_
      refine s_y (y_assign (v := (Vi 1)) rfl) rfl ?_
      refine s_nil (hK43 _ _ (genC [(6, (Vi 1))] ⟨rfl, trivial⟩ ?_))
      clear hK43; rintro E ⟨g44, -⟩
      refine ret (hret _ _ [(Vi 1)] ⟨g44, trivial⟩ ?_)
      refine ⟨congrArg (Value.int .i64) ?_, ka37⟩
      grind [mayE]
    · refine skip (hK12 _ _ (genC [(0, (Vp g.tb 0)), (1, (Vi p)), (5, (Vp w.heap.size 0))] ⟨g38, g39, g40, trivial⟩ ?_))
      clear hK12; rintro E ⟨g45, g46, g47, -⟩
      refine seq fun K48 hK48 => ?_
      refine seq fun K49 hK49 => ?_
      refine reg ?_
      refine s_y (y_move (v := (Vp g.tb 0)) g45) rfl ?_
      refine s_y (y_move (v := (Vi p)) g46) rfl ?_
      have hb50 := (hk36.get0 hb34)
      refine s_y (y_load (v := (t6 t)) g47 (rd_agg (vs := t.cs) ag32 (On.now hb50) (by kernel_rfl) rfl)) rfl ?_
      have hf51 := (BibIs.k0 (BibIs.k0 (BibIs.k0 hf14 hk16) hk24) hk36)
      refine s_e (e_call ca43 (args := [(Vp g.tb 0), (Vi p), (t6 t)]) rfl (inb_spec ok hf51 p t (by omega) (by omega))) rfl ?_
      rintro _ w52 ⟨⟨hq55, rfl⟩ | ⟨q54, hq56, hq57, rfl⟩, hk53⟩
      · have ka58 := (Kp.then0 ka37 hk53)
        refine s_y (y_move (v := (.tuple #[(bv zeroB), Vf])) rfl) rfl ?_
        refine s_y (y_ext rfl (v := (bv zeroB)) rfl) rfl ?_
        refine s_y (y_ext rfl (v := Vf) rfl) rfl ?_
        refine s_e (e_alloc ze36) rfl ?_
        rintro _ w59 ⟨rfl, hb60, hk61⟩
        have ka62 := (Kp.then0 ka58 hk61)
        refine s_e0 (e_storeV (cs' := zeroB.cs.toArray) zeroB.cs rfl (v := (bv zeroB)) rfl rfl sz36 hb60 rfl rfl rfl) ?_
        rintro _ w63 ⟨hb64, hk65⟩
        have hz67 := (nl (nl (nl (nl hk7.size hk16.size) hk24.size) hk36.size) hk53.size)
        have ka66 := (Kp.fresh ka62 hk65 fun _ e => nl (nl hz67 (Nat.le_refl _)) (Nat.le_of_eq e.symm))
        refine s_y (y_assign (v := Vf) rfl) rfl ?_
        refine s_nil (hK49 _ _ (genC [(0, (Vp g.tb 0)), (8, Vf)] ⟨g45, rfl, trivial⟩ ?_))
        clear hK49; rintro E ⟨g68, g69, -⟩
        refine seq fun K70 hK70 => ?_
        refine reg ?_
        refine s_y (y_move (v := Vf) g69) rfl ?_
        refine s_nil (hK70 _ _ (genC [(0, (Vp g.tb 0)), (28, Vf)] ⟨g68, rfl, trivial⟩ ?_))
        clear hK70; rintro E ⟨g71, g72, -⟩
        refine cond_f g72 ?_
        refine skip (hK48 _ _ (genC [(0, (Vp g.tb 0))] ⟨g71, trivial⟩ ?_))
        clear hK48; rintro E ⟨g73, -⟩
        refine seq fun K74 hK74 => ?_
        refine seq fun K75 hK75 => ?_
        refine regD (fun _ => False) (.take 0 (.take 1 (.take 2 (.take 3 (.take 4 (.take 5 (.take 6 (.take 7 (.take 8 (.take 9 .done)))))))))) mixed (by kernel_rfl) fun w76 hh77 hk78 => ?_
        have ka79 := (Kp.then0 ka66 hk78)
        refine o_y rfl (y_move (v := (Vp g.tb 0)) g73) ?_
        refine o_y rfl (y_nil rfl) ?_
        refine o_y rfl (y_fld fo95_3 rfl) ?_
        refine o_y rfl (y_load (v := (.map (some g.mb))) rfl (rd_sc sc91 (On.kp (hk78.get0 (hk65.get (hk61.get0 (hk53.get0 (hk36.get0 (hk24.get0 (hk16.get0 (hk7.get0 hb0)))))) (Nat.ne_of_lt (nt (nt (lt_of_get hb0) hz67) (Nat.le_refl _))))) id) rfl)) ?_
        refine o_y rfl (y_lenMap Tryd.underlying91 (MapOn.kp ((((((((hm0.kp hk7 id).kp hk16 id).kp hk24 id).kp hk36 id).kp hk53 id).kp hk61 id).kp hk65 (Nat.ne_of_lt (nt (nt (hm0.lt) hz67) (Nat.le_refl _)))).kp hk78 id) id) rfl) ?_
        refine o_y rfl (y_move (v := (Vp g.tb 0)) g73) ?_
        refine o_y rfl (y_nil rfl) ?_
        refine o_y rfl (y_fld fo95_0 rfl) ?_
        refine o_y rfl (y_load (v := (Vi (g.max))) rfl (rd_sc sc3 (On.kp (hk78.get0 (hk65.get (hk61.get0 (hk53.get0 (hk36.get0 (hk24.get0 (hk16.get0 (hk7.get0 hb0)))))) (Nat.ne_of_lt (nt (nt (lt_of_get hb0) hz67) (Nat.le_refl _))))) id) rfl)) ?_
        refine o_y rfl (y_geq rfl rfl) ?_
        refine o_done (hK75 _ _ (genC [(38, (.bool (decide ((g.max : Int) ≤ (((idl st.l).length : Nat) : Int)))))] ⟨rfl, trivial⟩ ?_))
        clear hK75; rintro E ⟨g80, -⟩
        refine cond_d g80 (fun c81 => ?_) (fun c81 => ?_)
        · refine seq fun K82 hK82 => ?_
          refine reg ?_
          refine s_y (y_assign (v := (Vi 6)) rfl) rfl ?_
          refine s_nil (hK82 _ _ (genC [(6, (Vi 6))] ⟨rfl, trivial⟩ ?_))
          clear hK82; rintro E ⟨g83, -⟩
          refine ret (hret _ _ [(Vi 6)] ⟨g83, trivial⟩ ?_)
          refine ⟨congrArg (Value.int .i64) ?_, ka79⟩
          have hli9 : (lookIn st.l p t).isSome = false := by rw [hq55]; rfl
          have hil9 : (idl st.l).length = st.l.length := by simp [idl]
          grind [mayE]
        · refine skip (hK74 _ _ (genC [] trivial ?_))
          clear hK74; rintro E -
          refine seq fun K84 hK84 => ?_
          refine reg ?_
          refine s_y (y_assign (v := (Vi 0)) rfl) rfl ?_
          refine s_nil (hK84 _ _ (genC [(6, (Vi 0))] ⟨rfl, trivial⟩ ?_))
          clear hK84; rintro E ⟨g85, -⟩
          refine ret (hret _ _ [(Vi 0)] ⟨g85, trivial⟩ ?_)
          refine ⟨congrArg (Value.int .i64) ?_, ka79⟩
          have hli9 : (lookIn st.l p t).isSome = false := by rw [hq55]; rfl
          have hil9 : (idl st.l).length = st.l.length := by simp [idl]
          grind [mayE]
      · have ka86 := (Kp.then0 ka37 hk53)
        refine s_y (y_move (v := (.tuple #[(bv q54.1), Vt])) rfl) rfl ?_
        refine s_y (y_ext rfl (v := (bv q54.1)) rfl) rfl ?_
        refine s_y (y_ext rfl (v := Vt) rfl) rfl ?_
        refine s_e (e_alloc ze36) rfl ?_
        rintro _ w87 ⟨rfl, hb88, hk89⟩
        have ka90 := (Kp.then0 ka86 hk89)
        refine s_e0 (e_storeV (cs' := q54.1.cs.toArray) q54.1.cs rfl (v := (bv q54.1)) rfl rfl sz36 hb88 rfl rfl rfl) ?_
        rintro _ w91 ⟨hb92, hk93⟩
        have hz95 := (nl (nl (nl (nl hk7.size hk16.size) hk24.size) hk36.size) hk53.size)
        have ka94 := (Kp.fresh ka90 hk93 fun _ e => nl (nl hz95 (Nat.le_refl _)) (Nat.le_of_eq e.symm))
        refine s_y (y_assign (v := Vt) rfl) rfl ?_
        refine s_nil (hK49 _ _ (genC [(0, (Vp g.tb 0)), (8, Vt)] ⟨g45, rfl, trivial⟩ ?_))
        clear hK49; rintro E ⟨g96, g97, -⟩
        refine seq fun K98 hK98 => ?_
        refine reg ?_
        refine s_y (y_move (v := Vt) g97) rfl ?_
        refine s_nil (hK98 _ _ (genC [(0, (Vp g.tb 0)), (28, Vt)] ⟨g96, rfl, trivial⟩ ?_))
        clear hK98; rintro E ⟨g99, g100, -⟩
        refine cond_t g100 ?_
        refine seq fun K101 hK101 => ?_
        refine reg ?_
        refine s_y (y_assign (v := (Vi 5)) rfl) rfl ?_
        refine s_nil (hK101 _ _ (genC [(6, (Vi 5))] ⟨rfl, trivial⟩ ?_))
        clear hK101; rintro E ⟨g102, -⟩
        refine ret (hret _ _ [(Vi 5)] ⟨g102, trivial⟩ ?_)
        refine ⟨congrArg (Value.int .i64) ?_, ka94⟩
        have hli9 : (lookIn st.l p t).isSome = true := by rw [hq56]; rfl
        have hil9 : (idl st.l).length = st.l.length := by simp [idl]
        grind [mayE]

theorem lenb_spec {g : BibG} {st : BibS} {w : World} (h : BibIs g st w) : Rets Tryd.prog 18 #[(.pointer (some ⟨g.tb, 0, none⟩))] w fun v w' => v = .int .i64 (st.l.length : Nat) ∧ K0 w w' := by
  refine enter Tryd.func18 rfl Tryd.ntmps18 rfl fun Q hret hend E hE => ?_
  have g1 : E 0 = (Vp g.tb 0) := hE 0
  clear hE
  have hb0 := h.blk; have hm0 := h.map; have hT0 := h.tb; have hn1 : g.tb ≠ g.mb := blk_ne_map h.blk h.map
  refine seq fun K2 hK2 => ?_
  refine reg ?_
  refine s_y (y_assign (v := (Vi 0)) rfl) rfl ?_
  refine s_nil (hK2 _ _ (genC [(0, (Vp g.tb 0))] ⟨g1, trivial⟩ ?_))
  clear hK2; rintro E ⟨g3, -⟩
  refine seq fun K4 hK4 => ?_
  refine seq fun K5 hK5 => ?_
  refine reg ?_
  refine s_y (y_move (v := (Vp g.tb 0)) g3) rfl ?_
  refine s_e (e_call ca49 (args := [(Vp g.tb 0)]) rfl (bnone_spec h)) rfl ?_
  rintro _ w6 ⟨rfl, hk7⟩
  have ka8 : Kp (fun _ => False) w w6 := (Kp.then0 (Kp.refl _ _) hk7)
  refine s_nil (hK5 _ _ (genC [(0, (Vp g.tb 0)), (4, Vf)] ⟨g3, rfl, trivial⟩ ?_))
  clear hK5; rintro E ⟨g9, g10, -⟩
  refine cond_f g10 ?_
  refine skip (hK4 _ _ (genC [(0, (Vp g.tb 0))] ⟨g9, trivial⟩ ?_))
  clear hK4; rintro E ⟨g11, -⟩
  refine seq fun K12 hK12 => ?_
  refine reg ?_
  refine s_y (y_move (v := (Vp g.tb 0)) g11) rfl ?_
  refine s_y (y_nil rfl) rfl ?_
  refine s_y (y_fld fo95_3 rfl) rfl ?_
  have hb13 := (hk7.get0 hb0)
  refine s_y (y_load (v := (.map (some g.mb))) rfl (rd_sc sc91 (On.now hb13) rfl)) rfl ?_
  have hf14 := (hm0.kp hk7 id)
  refine s_y (y_lenMap Tryd.underlying91 (MapOn.now hf14) rfl) rfl ?_
  refine s_y (y_assign (v := (Vi ((((idl st.l).length : Nat) : Int)))) rfl) rfl ?_
  refine s_nil (hK12 _ _ (genC [(2, (Vi ((((idl st.l).length : Nat) : Int))))] ⟨rfl, trivial⟩ ?_))
  clear hK12; rintro E ⟨g15, -⟩
  refine ret (hret _ _ [(Vi ((((idl st.l).length : Nat) : Int)))] ⟨g15, trivial⟩ ?_)
  exact ⟨congrArg (Value.int .i64) (by simp [idl]), ka8⟩

theorem freeb_0 {g : BibG} {st : BibS} {w : World} (ok : BibOk g) (h : BibIs g st w) (hb : (st.h 0).length ≤ 1000000) : Rets Tryd.prog 21 #[(.pointer (some ⟨g.tb, 0, none⟩)), (.int .i64 1)] w fun v w' => v = .int .i64 (pFree (g.p 0) (st.h 0)) ∧ K0 w w' := by
  refine enter Tryd.func21 rfl Tryd.ntmps21 rfl fun Q hret hend E hE => ?_
  have g1 : E 0 = (Vp g.tb 0) := hE 0
  have g2 : E 1 = (Vi 1) := hE 1
  clear hE
  have hb0 := h.blk; have hm0 := h.map; have hT0 := h.tb; have hn1 : g.tb ≠ g.mb := blk_ne_map h.blk h.map
  refine seq fun K3 hK3 => ?_
  refine reg ?_
  refine s_y (y_assign (v := (Vi 0)) rfl) rfl ?_
  refine s_nil (hK3 _ _ (genC [(0, (Vp g.tb 0)), (1, (Vi 1))] ⟨g1, g2, trivial⟩ ?_))
  clear hK3; rintro E ⟨g4, g5, -⟩
  refine seq fun K6 hK6 => ?_
  refine seq fun K7 hK7 => ?_
  refine reg ?_
  refine s_y (y_move (v := (Vp g.tb 0)) g4) rfl ?_
  refine s_e (e_call ca49 (args := [(Vp g.tb 0)]) rfl (bnone_spec h)) rfl ?_
  rintro _ w8 ⟨rfl, hk9⟩
  have ka10 : Kp (fun _ => False) w w8 := (Kp.then0 (Kp.refl _ _) hk9)
  refine s_y (y_move (v := Vf) rfl) rfl ?_
  refine s_gy (.yes rfl rfl) (y_move (v := (Vi 1)) g5) rfl ?_
  refine s_ge (.yes rfl rfl) (e_call ca51 (args := [(Vi 1)]) rfl (kind_spec 1 _)) rfl ?_
  rintro _ w11 ⟨rfl, hk12⟩
  have ka13 := (Kp.then0 ka10 hk12)
  refine s_gy (.yes rfl rfl) (y_lss rfl rfl) rfl ?_
  refine s_y (y_pick_f rfl (v := Vf) rfl) rfl ?_
  refine s_nil (hK7 _ _ (genC [(0, (Vp g.tb 0)), (1, (Vi 1)), (11, Vf)] ⟨g4, g5, rfl, trivial⟩ ?_))
  clear hK7; rintro E ⟨g14, g15, g16, -⟩
  refine cond_f g16 ?_
  refine skip (hK6 _ _ (genC [(0, (Vp g.tb 0)), (1, (Vi 1))] ⟨g14, g15, trivial⟩ ?_))
  clear hK6; rintro E ⟨g17, g18, -⟩
  refine seq fun K19 hK19 => ?_
  refine regD (fun _ => False) (.take 0 (.take 1 (.take 3 (.take 4 (.one 2 (.take 5 (.take 6 (.one 7 (.take 8 .done))))))))) mixed (by kernel_rfl) fun w20 hh21 hk22 => ?_
  have ka23 := (Kp.then0 ka13 hk22)
  refine o_y rfl (y_move (v := (Vp g.tb 0)) g17) ?_
  refine o_y rfl (y_move (v := (Vi 1)) g18) ?_
  refine o_y rfl (y_nil rfl) ?_
  refine o_y rfl (y_fld fo95_6 rfl) ?_
  refine o_one ?_
  refine c_e rfl (e_call ca51 (args := [(Vi 1)]) rfl (kind_spec 1 _)) ?_
  rintro _ w24 ⟨rfl, hk25⟩
  have ka26 := (Kp.then0 ka23 hk25)
  have ks27 : Kp (fun _ => False) w20 w24 := (Kp.then0 (Kp.refl _ _) hk25)
  refine ⟨ks27, ?_⟩
  refine o_y rfl (y_idxA ao93 sz92 rfl (i := 0) rfl (by omega)) ?_
  refine o_y rfl (y_load (v := (Vp ((g.p 0).pb) 0)) rfl (rd_sc sc92 (On.kp (hk22.get0 (hk12.get0 (hk9.get0 hb0))) id) rfl)) ?_
  refine o_one ?_
  have hf28 := (BibIs.k0 (BibIs.k0 (BibIs.k0 (BibIs.k0 h hk9) hk12) hk22) hk25)
  refine c_e rfl (e_call ca58 (args := [(Vp ((g.p 0).pb) 0)]) rfl (free_spec (BibIs.pool hf28 0 (by omega)) (ok.pool 0 (by omega)) hb)) ?_
  rintro _ w29 ⟨rfl, hk30⟩
  have ka31 := (Kp.then0 ka26 hk30)
  have ks32 := (Kp.then0 ks27 hk30)
  refine ⟨ks32, ?_⟩
  refine o_y rfl (y_assign (v := (Vi ((pFree (g.p 0) (st.h 0))))) rfl) ?_
  refine o_done (hK19 _ _ (genC [(4, (Vi ((pFree (g.p 0) (st.h 0)))))] ⟨rfl, trivial⟩ ?_))
  clear hK19; rintro E ⟨g33, -⟩
  refine ret (hret _ _ [(Vi ((pFree (g.p 0) (st.h 0))))] ⟨g33, trivial⟩ ?_)
  exact ⟨rfl, ka31⟩

theorem freeb_1 {g : BibG} {st : BibS} {w : World} (ok : BibOk g) (h : BibIs g st w) (hb : (st.h 1).length ≤ 1000000) : Rets Tryd.prog 21 #[(.pointer (some ⟨g.tb, 0, none⟩)), (.int .i64 6)] w fun v w' => v = .int .i64 (pFree (g.p 1) (st.h 1)) ∧ K0 w w' := by
  refine enter Tryd.func21 rfl Tryd.ntmps21 rfl fun Q hret hend E hE => ?_
  have g1 : E 0 = (Vp g.tb 0) := hE 0
  have g2 : E 1 = (Vi 6) := hE 1
  clear hE
  have hb0 := h.blk; have hm0 := h.map; have hT0 := h.tb; have hn1 : g.tb ≠ g.mb := blk_ne_map h.blk h.map
  refine seq fun K3 hK3 => ?_
  refine reg ?_
  refine s_y (y_assign (v := (Vi 0)) rfl) rfl ?_
  refine s_nil (hK3 _ _ (genC [(0, (Vp g.tb 0)), (1, (Vi 6))] ⟨g1, g2, trivial⟩ ?_))
  clear hK3; rintro E ⟨g4, g5, -⟩
  refine seq fun K6 hK6 => ?_
  refine seq fun K7 hK7 => ?_
  refine reg ?_
  refine s_y (y_move (v := (Vp g.tb 0)) g4) rfl ?_
  refine s_e (e_call ca49 (args := [(Vp g.tb 0)]) rfl (bnone_spec h)) rfl ?_
  rintro _ w8 ⟨rfl, hk9⟩
  have ka10 : Kp (fun _ => False) w w8 := (Kp.then0 (Kp.refl _ _) hk9)
  refine s_y (y_move (v := Vf) rfl) rfl ?_
  refine s_gy (.yes rfl rfl) (y_move (v := (Vi 6)) g5) rfl ?_
  refine s_ge (.yes rfl rfl) (e_call ca51 (args := [(Vi 6)]) rfl (kind_spec 6 _)) rfl ?_
  rintro _ w11 ⟨rfl, hk12⟩
  have ka13 := (Kp.then0 ka10 hk12)
  refine s_gy (.yes rfl rfl) (y_lss rfl rfl) rfl ?_
  refine s_y (y_pick_f rfl (v := Vf) rfl) rfl ?_
  refine s_nil (hK7 _ _ (genC [(0, (Vp g.tb 0)), (1, (Vi 6)), (11, Vf)] ⟨g4, g5, rfl, trivial⟩ ?_))
  clear hK7; rintro E ⟨g14, g15, g16, -⟩
  refine cond_f g16 ?_
  refine skip (hK6 _ _ (genC [(0, (Vp g.tb 0)), (1, (Vi 6))] ⟨g14, g15, trivial⟩ ?_))
  clear hK6; rintro E ⟨g17, g18, -⟩
  refine seq fun K19 hK19 => ?_
  refine regD (fun _ => False) (.take 0 (.take 1 (.take 3 (.take 4 (.one 2 (.take 5 (.take 6 (.one 7 (.take 8 .done))))))))) mixed (by kernel_rfl) fun w20 hh21 hk22 => ?_
  have ka23 := (Kp.then0 ka13 hk22)
  refine o_y rfl (y_move (v := (Vp g.tb 0)) g17) ?_
  refine o_y rfl (y_move (v := (Vi 6)) g18) ?_
  refine o_y rfl (y_nil rfl) ?_
  refine o_y rfl (y_fld fo95_6 rfl) ?_
  refine o_one ?_
  refine c_e rfl (e_call ca51 (args := [(Vi 6)]) rfl (kind_spec 6 _)) ?_
  rintro _ w24 ⟨rfl, hk25⟩
  have ka26 := (Kp.then0 ka23 hk25)
  have ks27 : Kp (fun _ => False) w20 w24 := (Kp.then0 (Kp.refl _ _) hk25)
  refine ⟨ks27, ?_⟩
  refine o_y rfl (y_idxA ao93 sz92 rfl (i := 1) rfl (by omega)) ?_
  refine o_y rfl (y_load (v := (Vp ((g.p 1).pb) 0)) rfl (rd_sc sc92 (On.kp (hk22.get0 (hk12.get0 (hk9.get0 hb0))) id) rfl)) ?_
  refine o_one ?_
  have hf28 := (BibIs.k0 (BibIs.k0 (BibIs.k0 (BibIs.k0 h hk9) hk12) hk22) hk25)
  refine c_e rfl (e_call ca58 (args := [(Vp ((g.p 1).pb) 0)]) rfl (free_spec (BibIs.pool hf28 1 (by omega)) (ok.pool 1 (by omega)) hb)) ?_
  rintro _ w29 ⟨rfl, hk30⟩
  have ka31 := (Kp.then0 ka26 hk30)
  have ks32 := (Kp.then0 ks27 hk30)
  refine ⟨ks32, ?_⟩
  refine o_y rfl (y_assign (v := (Vi ((pFree (g.p 1) (st.h 1))))) rfl) ?_
  refine o_done (hK19 _ _ (genC [(4, (Vi ((pFree (g.p 1) (st.h 1)))))] ⟨rfl, trivial⟩ ?_))
  clear hK19; rintro E ⟨g33, -⟩
  refine ret (hret _ _ [(Vi ((pFree (g.p 1) (st.h 1))))] ⟨g33, trivial⟩ ?_)
  exact ⟨rfl, ka31⟩

theorem freeb_2 {g : BibG} {st : BibS} {w : World} (ok : BibOk g) (h : BibIs g st w) (hb : (st.h 2).length ≤ 1000000) : Rets Tryd.prog 21 #[(.pointer (some ⟨g.tb, 0, none⟩)), (.int .i64 17)] w fun v w' => v = .int .i64 (pFree (g.p 2) (st.h 2)) ∧ K0 w w' := by
  refine enter Tryd.func21 rfl Tryd.ntmps21 rfl fun Q hret hend E hE => ?_
  have g1 : E 0 = (Vp g.tb 0) := hE 0
  have g2 : E 1 = (Vi 17) := hE 1
  clear hE
  have hb0 := h.blk; have hm0 := h.map; have hT0 := h.tb; have hn1 : g.tb ≠ g.mb := blk_ne_map h.blk h.map
  refine seq fun K3 hK3 => ?_
  refine reg ?_
  refine s_y (y_assign (v := (Vi 0)) rfl) rfl ?_
  refine s_nil (hK3 _ _ (genC [(0, (Vp g.tb 0)), (1, (Vi 17))] ⟨g1, g2, trivial⟩ ?_))
  clear hK3; rintro E ⟨g4, g5, -⟩
  refine seq fun K6 hK6 => ?_
  refine seq fun K7 hK7 => ?_
  refine reg ?_
  refine s_y (y_move (v := (Vp g.tb 0)) g4) rfl ?_
  refine s_e (e_call ca49 (args := [(Vp g.tb 0)]) rfl (bnone_spec h)) rfl ?_
  rintro _ w8 ⟨rfl, hk9⟩
  have ka10 : Kp (fun _ => False) w w8 := (Kp.then0 (Kp.refl _ _) hk9)
  refine s_y (y_move (v := Vf) rfl) rfl ?_
  refine s_gy (.yes rfl rfl) (y_move (v := (Vi 17)) g5) rfl ?_
  refine s_ge (.yes rfl rfl) (e_call ca51 (args := [(Vi 17)]) rfl (kind_spec 17 _)) rfl ?_
  rintro _ w11 ⟨rfl, hk12⟩
  have ka13 := (Kp.then0 ka10 hk12)
  refine s_gy (.yes rfl rfl) (y_lss rfl rfl) rfl ?_
  refine s_y (y_pick_f rfl (v := Vf) rfl) rfl ?_
  refine s_nil (hK7 _ _ (genC [(0, (Vp g.tb 0)), (1, (Vi 17)), (11, Vf)] ⟨g4, g5, rfl, trivial⟩ ?_))
  clear hK7; rintro E ⟨g14, g15, g16, -⟩
  refine cond_f g16 ?_
  refine skip (hK6 _ _ (genC [(0, (Vp g.tb 0)), (1, (Vi 17))] ⟨g14, g15, trivial⟩ ?_))
  clear hK6; rintro E ⟨g17, g18, -⟩
  refine seq fun K19 hK19 => ?_
  refine regD (fun _ => False) (.take 0 (.take 1 (.take 3 (.take 4 (.one 2 (.take 5 (.take 6 (.one 7 (.take 8 .done))))))))) mixed (by kernel_rfl) fun w20 hh21 hk22 => ?_
  have ka23 := (Kp.then0 ka13 hk22)
  refine o_y rfl (y_move (v := (Vp g.tb 0)) g17) ?_
  refine o_y rfl (y_move (v := (Vi 17)) g18) ?_
  refine o_y rfl (y_nil rfl) ?_
  refine o_y rfl (y_fld fo95_6 rfl) ?_
  refine o_one ?_
  refine c_e rfl (e_call ca51 (args := [(Vi 17)]) rfl (kind_spec 17 _)) ?_
  rintro _ w24 ⟨rfl, hk25⟩
  have ka26 := (Kp.then0 ka23 hk25)
  have ks27 : Kp (fun _ => False) w20 w24 := (Kp.then0 (Kp.refl _ _) hk25)
  refine ⟨ks27, ?_⟩
  refine o_y rfl (y_idxA ao93 sz92 rfl (i := 2) rfl (by omega)) ?_
  refine o_y rfl (y_load (v := (Vp ((g.p 2).pb) 0)) rfl (rd_sc sc92 (On.kp (hk22.get0 (hk12.get0 (hk9.get0 hb0))) id) rfl)) ?_
  refine o_one ?_
  have hf28 := (BibIs.k0 (BibIs.k0 (BibIs.k0 (BibIs.k0 h hk9) hk12) hk22) hk25)
  refine c_e rfl (e_call ca58 (args := [(Vp ((g.p 2).pb) 0)]) rfl (free_spec (BibIs.pool hf28 2 (by omega)) (ok.pool 2 (by omega)) hb)) ?_
  rintro _ w29 ⟨rfl, hk30⟩
  have ka31 := (Kp.then0 ka26 hk30)
  have ks32 := (Kp.then0 ks27 hk30)
  refine ⟨ks32, ?_⟩
  refine o_y rfl (y_assign (v := (Vi ((pFree (g.p 2) (st.h 2))))) rfl) ?_
  refine o_done (hK19 _ _ (genC [(4, (Vi ((pFree (g.p 2) (st.h 2)))))] ⟨rfl, trivial⟩ ?_))
  clear hK19; rintro E ⟨g33, -⟩
  refine ret (hret _ _ [(Vi ((pFree (g.p 2) (st.h 2))))] ⟨g33, trivial⟩ ?_)
  exact ⟨rfl, ka31⟩

theorem freeb_no {g : BibG} {st : BibS} {w : World} (h : BibIs g st w) (p : Int) (hk : kindI p < 0) : Rets Tryd.prog 21 #[(.pointer (some ⟨g.tb, 0, none⟩)), (.int .i64 p)] w fun v w' => v = .int .i64 0 ∧ K0 w w' := by
  refine enter Tryd.func21 rfl Tryd.ntmps21 rfl fun Q hret hend E hE => ?_
  have g1 : E 0 = (Vp g.tb 0) := hE 0
  have g2 : E 1 = (Vi p) := hE 1
  clear hE
  have hb0 := h.blk; have hm0 := h.map; have hT0 := h.tb; have hn1 : g.tb ≠ g.mb := blk_ne_map h.blk h.map
  refine seq fun K3 hK3 => ?_
  refine reg ?_
  refine s_y (y_assign (v := (Vi 0)) rfl) rfl ?_
  refine s_nil (hK3 _ _ (genC [(0, (Vp g.tb 0)), (1, (Vi p))] ⟨g1, g2, trivial⟩ ?_))
  clear hK3; rintro E ⟨g4, g5, -⟩
  refine seq fun K6 hK6 => ?_
  refine seq fun K7 hK7 => ?_
  refine reg ?_
  refine s_y (y_move (v := (Vp g.tb 0)) g4) rfl ?_
  refine s_e (e_call ca49 (args := [(Vp g.tb 0)]) rfl (bnone_spec h)) rfl ?_
  rintro _ w8 ⟨rfl, hk9⟩
  have ka10 : Kp (fun _ => False) w w8 := (Kp.then0 (Kp.refl _ _) hk9)
  refine s_y (y_move (v := Vf) rfl) rfl ?_
  refine s_gy (.yes rfl rfl) (y_move (v := (Vi p)) g5) rfl ?_
  refine s_ge (.yes rfl rfl) (e_call ca51 (args := [(Vi p)]) rfl (kind_spec p _)) rfl ?_
  rintro _ w11 ⟨rfl, hk12⟩
  have ka13 := (Kp.then0 ka10 hk12)
  refine s_gy (.yes rfl rfl) (y_lss rfl rfl) rfl ?_
  refine s_y (y_pick_f rfl (v := (.bool (decide (((kindI p) : Int) < 0)))) rfl) rfl ?_
  refine s_nil (hK7 _ _ (genC [(0, (Vp g.tb 0)), (1, (Vi p)), (11, (.bool (decide (((kindI p) : Int) < 0))))] ⟨g4, g5, rfl, trivial⟩ ?_))
  clear hK7; rintro E ⟨g14, g15, g16, -⟩
  refine cond_d g16 (fun c17 => ?_) (fun c17 => ?_)
  · refine seq fun K18 hK18 => ?_
    refine reg ?_
    refine s_y (y_assign (v := (Vi 0)) rfl) rfl ?_
    refine s_nil (hK18 _ _ (genC [(4, (Vi 0))] ⟨rfl, trivial⟩ ?_))
    clear hK18; rintro E ⟨g19, -⟩
    refine ret (hret _ _ [(Vi 0)] ⟨g19, trivial⟩ ?_)
    exact ⟨rfl, ka13⟩
  · omega

end Go.Proofs.YtdcnblafepgheaaDoor
