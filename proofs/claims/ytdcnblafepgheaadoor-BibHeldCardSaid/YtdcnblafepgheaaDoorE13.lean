/-
  Written by a program (wip/walks).
-/
import Derived.Test.YtdcnblafepgheaaDoorE12
namespace Go.Proofs.YtdcnblafepgheaaDoor
open Go Go.V
set_option maxRecDepth 100000
theorem box_ne {g : BibG} {st : BibS} (h : (bfp g st).Nodup) {q : Binding × Nat} (hq : q ∈ st.l) {b : Nat} (hb : b ∈ g.blocks) : b ≠ q.2 := (List.nodup_append.1 h).2.2 b hb q.2 (List.mem_map.2 ⟨q, hq, rfl⟩)
theorem box_inj {g : BibG} {st : BibS} (h : (bfp g st).Nodup) {q q' : Binding × Nat} (hq : q ∈ st.l) (hq' : q' ∈ st.l) (e : q'.2 = q.2) : q' = q := by
  have hn := (List.nodup_append.1 h).2.1
  generalize st.l = l at hn hq hq'
  induction l with
  | nil => cases hq
  | cons x l ih =>
    rw [List.map_cons, List.nodup_cons] at hn
    rcases List.mem_cons.1 hq with e1 | e1 <;> rcases List.mem_cons.1 hq' with e2 | e2
    · rw [e1, e2]
    · exfalso; exact hn.1 (List.mem_map.2 ⟨q', e2, by rw [e, e1]⟩)
    · exfalso; exact hn.1 (List.mem_map.2 ⟨q, e1, by rw [← e, e2]⟩)
    · exact ih hn.2 e1 e2
theorem upd_same {l : List (Binding × Nat)} {id : Int} {b' : Binding} {α : Type} (φ : Binding × Nat → α) (h : ∀ q ∈ l, q.1.id = id → φ (b', q.2) = φ q) : (updL l id fun _ => b').map φ = l.map φ := by
  unfold updL
  rw [List.map_map]
  apply List.map_congr_left
  intro q hq
  simp only [Function.comp_apply]
  split
  · rename_i e; exact h q hq e
  · rfl
theorem find_upd {l : List (Binding × Nat)} {id : Int} {b' : Binding} (p : Binding × Nat → Bool) (h : ∀ q ∈ l, q.1.id = id → p (b', q.2) = p q) (hb : b'.id = id) : ((updL l id fun _ => b').find? p).map (·.1.id) = (l.find? p).map (·.1.id) := by
  induction l with
  | nil => rfl
  | cons x l ih =>
    unfold updL at *
    rw [List.map_cons, List.find?_cons, List.find?_cons]
    have ih := ih fun q hq => h q (by simp [hq])
    by_cases e : x.1.id = id
    · have h1 := h x (by simp) e
      simp only [e, if_true, h1]
      cases p x with
      | true => simp [hb, e]
      | false => exact ih
    · simp only [e, if_false]
      cases p x with
      | true => rfl
      | false => exact ih
theorem BibIs.upd {g : BibG} {st : BibS} {w w' : World} (h : BibIs g st w) {q : Binding × Nat} (hq : q ∈ st.l) (kp : Kp (· = q.2) w w') (b' : Binding) (e1 : b'.id = q.1.id) (e2 : b'.proto = q.1.proto) (e3 : b'.inn = q.1.inn) (e4 : b'.out = q.1.out) (box : Blk w' q.2 b'.cs.toArray 36) : BibIs g ⟨st.last, updL st.l q.1.id fun _ => b', st.h⟩ w' := by
  have hq' : ∀ x ∈ st.l, x.1.id = q.1.id → x = q := fun x hx e => same_q' h.ids hq hx e
  have hb : ∀ i b, g.blocks[i]? = some b → ¬ b = q.2 := fun i b hi => box_ne h.nd hq (List.mem_of_getElem? hi)
  have e5 : idl (updL st.l q.1.id fun _ => b') = idl st.l := upd_same _ fun x hx e => by rw [e1, e]
  have e6 : (updL st.l q.1.id fun _ => b').map (·.2) = st.l.map (·.2) := upd_same _ fun x hx e => rfl
  have e7 : bfp g ⟨st.last, updL st.l q.1.id fun _ => b', st.h⟩ = bfp g st := by unfold bfp; rw [e6]
  have e8 : inM (updL st.l q.1.id fun _ => b') = inM st.l := by
    funext k
    exact find_upd _ (fun x hx e => by rw [hq' x hx e]; simp only [e2, e3]) e1
  have e9 : outM (updL st.l q.1.id fun _ => b') = outM st.l := by
    funext k
    exact find_upd _ (fun x hx e => by rw [hq' x hx e]; simp only [e2, e4]) e1
  have e10 : (updL st.l q.1.id fun _ => b').length = st.l.length := by simp [updL]
  refine ⟨kp.get h.blk (hb 0 _ rfl), e5 ▸ h.map.kp kp (hb 1 _ rfl), fun x hx => ?_, by rw [e8, e10]; exact h.ixin.kp kp (hb 2 _ rfl) (hb 3 _ rfl), by rw [e9, e10]; exact h.ixout.kp kp (hb 4 _ rfl) (hb 5 _ rfl), fun j hj => ?_, h.tb.kp kp (fun e => h.tbn (e ▸ List.mem_append_right _ (List.mem_map.2 ⟨q, hq, rfl⟩))), by rw [e7]; exact h.nd, by rw [e7]; exact h.tbn⟩
  · obtain ⟨y, hy, rfl⟩ := List.mem_map.1 hx
    by_cases e : y.1.id = q.1.id
    · simp only [e, if_true]; rw [hq' y hy e]; exact box
    · simp only [e, if_false]
      exact kp.get (h.box y hy) fun e2 => e (by rw [box_inj h.nd hq hy e2])
  · match j, hj with
    | 0, hj => exact (h.pool 0 hj).kp kp (hb 6 _ rfl) (hb 7 _ rfl) (hb 8 _ rfl)
    | 1, hj => exact (h.pool 1 hj).kp kp (hb 9 _ rfl) (hb 10 _ rfl) (hb 11 _ rfl)
    | 2, hj => exact (h.pool 2 hj).kp kp (hb 12 _ rfl) (hb 13 _ rfl) (hb 14 _ rfl)
def addS (b : Binding) (d : Int) : Binding := ⟨b.id, b.proto, b.inn, b.out, b.static, b.sessions + d⟩
theorem hold_none {g : BibG} {st : BibS} {w : World} (h : BibIs g st w) (n : Int) (hid : -9223372036854775808 ≤ n ∧ n ≤ 9223372036854775807) (hl : lookId st.l n = none) : Rets Tryd.prog 16 #[(.pointer (some ⟨g.tb, 0, none⟩)), (.int .i64 n)] w fun v w' => v = .int .i64 4 ∧ K0 w w' := by
  refine enter Tryd.func16 rfl Tryd.ntmps16 rfl fun Q hret hend E hE => ?_
  have g1 : E 0 = (Vp g.tb 0) := hE 0
  have g2 : E 1 = (Vi n) := hE 1
  clear hE
  have hb0 := h.blk; have hm0 := h.map; have hT0 := h.tb; have hn1 : g.tb ≠ g.mb := blk_ne_map h.blk h.map
  have hag : aget (idl st.l) n = none := by rw [aget_idl, hl]; rfl
  refine seq fun K3 hK3 => ?_
  refine reg ?_
  refine s_y (y_assign (v := (Vi 0)) rfl) rfl ?_
  refine s_nil (hK3 _ _ (genC [(0, (Vp g.tb 0)), (1, (Vi n))] ⟨g1, g2, trivial⟩ ?_))
  clear hK3; rintro E ⟨g4, g5, -⟩
  refine seq fun K6 hK6 => ?_
  refine seq fun K7 hK7 => ?_
  refine reg ?_
  refine s_y (y_move (v := (Vp g.tb 0)) g4) rfl ?_
  refine s_e (e_call ca49 (args := [(Vp g.tb 0)]) rfl (bnone_spec h)) rfl ?_
  rintro _ w8 ⟨rfl, hk9⟩
  have ka10 : Kp (fun _ => False) w w8 := (Kp.then0 (Kp.refl _ _) hk9)
  refine s_nil (hK7 _ _ (genC [(0, (Vp g.tb 0)), (1, (Vi n)), (8, Vf)] ⟨g4, g5, rfl, trivial⟩ ?_))
  clear hK7; rintro E ⟨g11, g12, g13, -⟩
  refine cond_f g13 ?_
  refine skip (hK6 _ _ (genC [(0, (Vp g.tb 0)), (1, (Vi n))] ⟨g11, g12, trivial⟩ ?_))
  clear hK6; rintro E ⟨g14, g15, -⟩
  refine seq fun K16 hK16 => ?_
  refine reg ?_
  refine s_y (y_move (v := (Vp g.tb 0)) g14) rfl ?_
  refine s_y (y_nil rfl) rfl ?_
  refine s_y (y_fld fo95_3 rfl) rfl ?_
  have hb17 := (hk9.get0 hb0)
  refine s_y (y_load (v := (.map (some g.mb))) rfl (rd_sc sc91 (On.now hb17) rfl)) rfl ?_
  refine s_y (y_move (v := (Vi n)) g15) rfl ?_
  have hf18 := (hm0.kp hk9 id)
  refine s_y (y_lookup2_none kf3 Tryd.underlying91 ze101 (MapOn.now hf18) rfl rfl (show inI n from inI_of (by omega) (by omega)) hag) rfl ?_
  refine s_y (y_move (v := (.tuple #[(.pointer none), Vf])) rfl) rfl ?_
  refine s_y (y_ext rfl (v := (.pointer none)) rfl) rfl ?_
  refine s_y (y_ext rfl (v := Vf) rfl) rfl ?_
  refine s_y (y_assign (v := (.pointer none)) rfl) rfl ?_
  refine s_y (y_assign (v := Vf) rfl) rfl ?_
  refine s_nil (hK16 _ _ (genC [(5, (.pointer none)), (6, Vf)] ⟨rfl, rfl, trivial⟩ ?_))
  clear hK16; rintro E ⟨g19, g20, -⟩
  refine seq fun K21 hK21 => ?_
  refine seq fun K22 hK22 => ?_
  refine reg ?_
  refine s_y (y_move (v := Vf) g20) rfl ?_
  refine s_y (y_not rfl) rfl ?_
  refine s_nil (hK22 _ _ (genC [(5, (.pointer none)), (19, Vt)] ⟨g19, rfl, trivial⟩ ?_))
  clear hK22; rintro E ⟨g23, g24, -⟩
  refine cond_t g24 ?_
  refine seq fun K25 hK25 => ?_
  refine reg ?_
  refine s_y (y_assign (v := (Vi 4)) rfl) rfl ?_
  refine s_nil (hK25 _ _ (genC [(4, (Vi 4))] ⟨rfl, trivial⟩ ?_))
  clear hK25; rintro E ⟨g26, -⟩
  refine ret (hret _ _ [(Vi 4)] ⟨g26, trivial⟩ ?_)
  exact ⟨rfl, ka10⟩

theorem hold_some {g : BibG} {st : BibS} {w : World} (h : BibIs g st w) (q : Binding × Nat) (hq : q ∈ st.l) (hs : 0 ≤ q.1.sessions ∧ q.1.sessions ≤ 4611686018427387904)  : Rets Tryd.prog 16 #[(.pointer (some ⟨g.tb, 0, none⟩)), (.int .i64 (q.1.id))] w fun v w' => v = .int .i64 0 ∧ BibIs g ⟨st.last, updL st.l q.1.id fun _ => addS q.1 1, st.h⟩ w' ∧ Kp (· = q.2) w w' := by
  refine enter Tryd.func16 rfl Tryd.ntmps16 rfl fun Q hret hend E hE => ?_
  have g1 : E 0 = (Vp g.tb 0) := hE 0
  have g2 : E 1 = (Vi (q.1.id)) := hE 1
  clear hE
  have hb0 := h.blk; have hm0 := h.map; have hT0 := h.tb; have hn1 : g.tb ≠ g.mb := blk_ne_map h.blk h.map
  have hag := h.aget hq; have hq3 := h.good hq; unfold inI at hq3; have hq2 := h.box q hq
  refine seq fun K3 hK3 => ?_
  refine reg ?_
  refine s_y (y_assign (v := (Vi 0)) rfl) rfl ?_
  refine s_nil (hK3 _ _ (genC [(0, (Vp g.tb 0)), (1, (Vi (q.1.id)))] ⟨g1, g2, trivial⟩ ?_))
  clear hK3; rintro E ⟨g4, g5, -⟩
  refine seq fun K6 hK6 => ?_
  refine seq fun K7 hK7 => ?_
  refine reg ?_
  refine s_y (y_move (v := (Vp g.tb 0)) g4) rfl ?_
  refine s_e (e_call ca49 (args := [(Vp g.tb 0)]) rfl (bnone_spec h)) rfl ?_
  rintro _ w8 ⟨rfl, hk9⟩
  have ka10 : Kp (· = q.2) w w8 := (Kp.then0 (Kp.refl _ _) hk9)
  refine s_nil (hK7 _ _ (genC [(0, (Vp g.tb 0)), (1, (Vi (q.1.id))), (8, Vf)] ⟨g4, g5, rfl, trivial⟩ ?_))
  clear hK7; rintro E ⟨g11, g12, g13, -⟩
  refine cond_f g13 ?_
  refine skip (hK6 _ _ (genC [(0, (Vp g.tb 0)), (1, (Vi (q.1.id)))] ⟨g11, g12, trivial⟩ ?_))
  clear hK6; rintro E ⟨g14, g15, -⟩
  refine seq fun K16 hK16 => ?_
  refine reg ?_
  refine s_y (y_move (v := (Vp g.tb 0)) g14) rfl ?_
  refine s_y (y_nil rfl) rfl ?_
  refine s_y (y_fld fo95_3 rfl) rfl ?_
  have hb17 := (hk9.get0 hb0)
  refine s_y (y_load (v := (.map (some g.mb))) rfl (rd_sc sc91 (On.now hb17) rfl)) rfl ?_
  refine s_y (y_move (v := (Vi (q.1.id))) g15) rfl ?_
  have hf18 := (hm0.kp hk9 id)
  refine s_y (y_lookup2_some kf3 Tryd.underlying91 ze101 (MapOn.now hf18) rfl rfl (show inI q.1.id from inI_of (by omega) (by omega)) hag) rfl ?_
  refine s_y (y_move (v := (.tuple #[(Vp q.2 0), Vt])) rfl) rfl ?_
  refine s_y (y_ext rfl (v := (Vp q.2 0)) rfl) rfl ?_
  refine s_y (y_ext rfl (v := Vt) rfl) rfl ?_
  refine s_y (y_assign (v := (Vp q.2 0)) rfl) rfl ?_
  refine s_y (y_assign (v := Vt) rfl) rfl ?_
  refine s_nil (hK16 _ _ (genC [(5, (Vp q.2 0)), (6, Vt)] ⟨rfl, rfl, trivial⟩ ?_))
  clear hK16; rintro E ⟨g19, g20, -⟩
  refine seq fun K21 hK21 => ?_
  refine seq fun K22 hK22 => ?_
  refine reg ?_
  refine s_y (y_move (v := Vt) g20) rfl ?_
  refine s_y (y_not rfl) rfl ?_
  refine s_nil (hK22 _ _ (genC [(5, (Vp q.2 0)), (19, Vf)] ⟨g19, rfl, trivial⟩ ?_))
  clear hK22; rintro E ⟨g23, g24, -⟩
  refine cond_f g24 ?_
  refine skip (hK21 _ _ (genC [(5, (Vp q.2 0))] ⟨g23, trivial⟩ ?_))
  clear hK21; rintro E ⟨g25, -⟩
  refine seq fun K26 hK26 => ?_
  refine reg ?_
  refine s_y (y_move (v := (Vp q.2 0)) g25) rfl ?_
  refine s_y (y_nil rfl) rfl ?_
  refine s_y (y_fld fo36_5 rfl) rfl ?_
  have hb27 := (hk9.get0 hq2)
  refine s_y (y_load (v := (Vi (q.1.sessions))) rfl (rd_sc sc3 (On.now hb27) rfl)) rfl ?_
  refine s_y (y_add rfl rfl (c := q.1.sessions + 1) (by omega) rfl) rfl ?_
  refine s_y (y_nil rfl) rfl ?_
  refine s_y (y_fld fo36_5 rfl) rfl ?_
  refine s_e0 (e_storeV (cs' := #[(Vi (q.1.id)), (Vi (q.1.proto)), (u8 q.1.inn.addr.b0), (u8 q.1.inn.addr.b1), (u8 q.1.inn.addr.b2), (u8 q.1.inn.addr.b3), (u8 q.1.inn.addr.b4), (u8 q.1.inn.addr.b5), (u8 q.1.inn.addr.b6), (u8 q.1.inn.addr.b7), (u8 q.1.inn.addr.b8), (u8 q.1.inn.addr.b9), (u8 q.1.inn.addr.b10), (u8 q.1.inn.addr.b11), (u8 q.1.inn.addr.b12), (u8 q.1.inn.addr.b13), (u8 q.1.inn.addr.b14), (u8 q.1.inn.addr.b15), (Vi (q.1.inn.port)), (u8 q.1.out.addr.a), (u8 q.1.out.addr.b), (u8 q.1.out.addr.c), (u8 q.1.out.addr.d), (Vi (q.1.out.port)), (.bool (q.1.static)), (Vi (q.1.sessions + 1))]) [(Vi (q.1.sessions + 1))] rfl (v := (Vi (q.1.sessions + 1))) rfl rfl sz3 hb27 rfl rfl rfl) ?_
  rintro _ w28 ⟨hb29, hk30⟩
  have ka31 := (Kp.trans ka10 hk30 (fun _ _ e => e))
  refine s_nil (hK26 _ _ (genC [] trivial ?_))
  clear hK26; rintro E -
  refine seq fun K32 hK32 => ?_
  refine reg ?_
  refine s_y (y_assign (v := (Vi 0)) rfl) rfl ?_
  refine s_nil (hK32 _ _ (genC [(4, (Vi 0))] ⟨rfl, trivial⟩ ?_))
  clear hK32; rintro E ⟨g33, -⟩
  refine ret (hret _ _ [(Vi 0)] ⟨g33, trivial⟩ ?_)
  exact ⟨rfl, BibIs.upd h hq ka31 (addS q.1 1) rfl rfl rfl rfl hb29, ka31⟩

theorem drop_none {g : BibG} {st : BibS} {w : World} (h : BibIs g st w) (n : Int) (hid : -9223372036854775808 ≤ n ∧ n ≤ 9223372036854775807) (hl : lookId st.l n = none) : Rets Tryd.prog 17 #[(.pointer (some ⟨g.tb, 0, none⟩)), (.int .i64 n)] w fun v w' => v = .tuple #[.bool false, .int .i64 4] ∧ K0 w w' := by
  refine enter Tryd.func17 rfl Tryd.ntmps17 rfl fun Q hret hend E hE => ?_
  have g1 : E 0 = (Vp g.tb 0) := hE 0
  have g2 : E 1 = (Vi n) := hE 1
  clear hE
  have hb0 := h.blk; have hm0 := h.map; have hT0 := h.tb; have hn1 : g.tb ≠ g.mb := blk_ne_map h.blk h.map
  have hag : aget (idl st.l) n = none := by rw [aget_idl, hl]; rfl
  refine seq fun K3 hK3 => ?_
  refine reg ?_
  refine s_y (y_assign (v := Vf) rfl) rfl ?_
  refine s_y (y_assign (v := (Vi 0)) rfl) rfl ?_
  refine s_nil (hK3 _ _ (genC [(0, (Vp g.tb 0)), (1, (Vi n))] ⟨g1, g2, trivial⟩ ?_))
  clear hK3; rintro E ⟨g4, g5, -⟩
  refine seq fun K6 hK6 => ?_
  refine seq fun K7 hK7 => ?_
  refine reg ?_
  refine s_y (y_move (v := (Vp g.tb 0)) g4) rfl ?_
  refine s_e (e_call ca49 (args := [(Vp g.tb 0)]) rfl (bnone_spec h)) rfl ?_
  rintro _ w8 ⟨rfl, hk9⟩
  have ka10 : Kp (fun _ => False) w w8 := (Kp.then0 (Kp.refl _ _) hk9)
  refine s_nil (hK7 _ _ (genC [(0, (Vp g.tb 0)), (1, (Vi n)), (9, Vf)] ⟨g4, g5, rfl, trivial⟩ ?_))
  clear hK7; rintro E ⟨g11, g12, g13, -⟩
  refine cond_f g13 ?_
  refine skip (hK6 _ _ (genC [(0, (Vp g.tb 0)), (1, (Vi n))] ⟨g11, g12, trivial⟩ ?_))
  clear hK6; rintro E ⟨g14, g15, -⟩
  refine seq fun K16 hK16 => ?_
  refine reg ?_
  refine s_y (y_move (v := (Vp g.tb 0)) g14) rfl ?_
  refine s_y (y_nil rfl) rfl ?_
  refine s_y (y_fld fo95_3 rfl) rfl ?_
  have hb17 := (hk9.get0 hb0)
  refine s_y (y_load (v := (.map (some g.mb))) rfl (rd_sc sc91 (On.now hb17) rfl)) rfl ?_
  refine s_y (y_move (v := (Vi n)) g15) rfl ?_
  have hf18 := (hm0.kp hk9 id)
  refine s_y (y_lookup2_none kf3 Tryd.underlying91 ze101 (MapOn.now hf18) rfl rfl (show inI n from inI_of (by omega) (by omega)) hag) rfl ?_
  refine s_y (y_move (v := (.tuple #[(.pointer none), Vf])) rfl) rfl ?_
  refine s_y (y_ext rfl (v := (.pointer none)) rfl) rfl ?_
  refine s_y (y_ext rfl (v := Vf) rfl) rfl ?_
  refine s_y (y_assign (v := (.pointer none)) rfl) rfl ?_
  refine s_y (y_assign (v := Vf) rfl) rfl ?_
  refine s_nil (hK16 _ _ (genC [(0, (Vp g.tb 0)), (6, (.pointer none)), (7, Vf)] ⟨g14, rfl, rfl, trivial⟩ ?_))
  clear hK16; rintro E ⟨g19, g20, g21, -⟩
  refine seq fun K22 hK22 => ?_
  refine block ?_
  refine seq fun K23 hK23 => ?_
  refine reg ?_
  refine s_y (y_move (v := Vf) g21) rfl ?_
  refine s_y (y_not rfl) rfl ?_
  refine s_y (y_assign (v := Vt) rfl) rfl ?_
  refine s_nil (hK23 _ _ (genC [(0, (Vp g.tb 0)), (6, (.pointer none)), (19, Vt)] ⟨g19, g20, rfl, trivial⟩ ?_))
  clear hK23; rintro E ⟨g24, g25, g26, -⟩
  refine cond_t g26 ?_
  refine seq fun K27 hK27 => ?_
  refine reg ?_
  refine s_y (y_assign (v := Vf) rfl) rfl ?_
  refine s_y (y_assign (v := (Vi 4)) rfl) rfl ?_
  refine s_nil (hK27 _ _ (genC [(4, Vf), (5, (Vi 4))] ⟨rfl, rfl, trivial⟩ ?_))
  clear hK27; rintro E ⟨g28, g29, -⟩
  refine ret (hret _ _ [Vf, (Vi 4)] ⟨g28, g29, trivial⟩ ?_)
  exact ⟨rfl, ka10⟩

theorem drop_zero {g : BibG} {st : BibS} {w : World} (h : BibIs g st w) (q : Binding × Nat) (hq : q ∈ st.l) (hs : q.1.sessions = 0) : Rets Tryd.prog 17 #[(.pointer (some ⟨g.tb, 0, none⟩)), (.int .i64 (q.1.id))] w fun v w' => v = .tuple #[.bool false, .int .i64 11] ∧ K0 w w' := by
  refine enter Tryd.func17 rfl Tryd.ntmps17 rfl fun Q hret hend E hE => ?_
  have g1 : E 0 = (Vp g.tb 0) := hE 0
  have g2 : E 1 = (Vi (q.1.id)) := hE 1
  clear hE
  have hb0 := h.blk; have hm0 := h.map; have hT0 := h.tb; have hn1 : g.tb ≠ g.mb := blk_ne_map h.blk h.map
  have hag := h.aget hq; have hq3 := h.good hq; unfold inI at hq3; have hq2 := h.box q hq
  refine seq fun K3 hK3 => ?_
  refine reg ?_
  refine s_y (y_assign (v := Vf) rfl) rfl ?_
  refine s_y (y_assign (v := (Vi 0)) rfl) rfl ?_
  refine s_nil (hK3 _ _ (genC [(0, (Vp g.tb 0)), (1, (Vi (q.1.id)))] ⟨g1, g2, trivial⟩ ?_))
  clear hK3; rintro E ⟨g4, g5, -⟩
  refine seq fun K6 hK6 => ?_
  refine seq fun K7 hK7 => ?_
  refine reg ?_
  refine s_y (y_move (v := (Vp g.tb 0)) g4) rfl ?_
  refine s_e (e_call ca49 (args := [(Vp g.tb 0)]) rfl (bnone_spec h)) rfl ?_
  rintro _ w8 ⟨rfl, hk9⟩
  have ka10 : Kp (fun _ => False) w w8 := (Kp.then0 (Kp.refl _ _) hk9)
  refine s_nil (hK7 _ _ (genC [(0, (Vp g.tb 0)), (1, (Vi (q.1.id))), (9, Vf)] ⟨g4, g5, rfl, trivial⟩ ?_))
  clear hK7; rintro E ⟨g11, g12, g13, -⟩
  refine cond_f g13 ?_
  refine skip (hK6 _ _ (genC [(0, (Vp g.tb 0)), (1, (Vi (q.1.id)))] ⟨g11, g12, trivial⟩ ?_))
  clear hK6; rintro E ⟨g14, g15, -⟩
  refine seq fun K16 hK16 => ?_
  refine reg ?_
  refine s_y (y_move (v := (Vp g.tb 0)) g14) rfl ?_
  refine s_y (y_nil rfl) rfl ?_
  refine s_y (y_fld fo95_3 rfl) rfl ?_
  have hb17 := (hk9.get0 hb0)
  refine s_y (y_load (v := (.map (some g.mb))) rfl (rd_sc sc91 (On.now hb17) rfl)) rfl ?_
  refine s_y (y_move (v := (Vi (q.1.id))) g15) rfl ?_
  have hf18 := (hm0.kp hk9 id)
  refine s_y (y_lookup2_some kf3 Tryd.underlying91 ze101 (MapOn.now hf18) rfl rfl (show inI q.1.id from inI_of (by omega) (by omega)) hag) rfl ?_
  refine s_y (y_move (v := (.tuple #[(Vp q.2 0), Vt])) rfl) rfl ?_
  refine s_y (y_ext rfl (v := (Vp q.2 0)) rfl) rfl ?_
  refine s_y (y_ext rfl (v := Vt) rfl) rfl ?_
  refine s_y (y_assign (v := (Vp q.2 0)) rfl) rfl ?_
  refine s_y (y_assign (v := Vt) rfl) rfl ?_
  refine s_nil (hK16 _ _ (genC [(0, (Vp g.tb 0)), (6, (Vp q.2 0)), (7, Vt)] ⟨g14, rfl, rfl, trivial⟩ ?_))
  clear hK16; rintro E ⟨g19, g20, g21, -⟩
  refine seq fun K22 hK22 => ?_
  refine block ?_
  refine seq fun K23 hK23 => ?_
  refine reg ?_
  refine s_y (y_move (v := Vt) g21) rfl ?_
  refine s_y (y_not rfl) rfl ?_
  refine s_y (y_assign (v := Vf) rfl) rfl ?_
  refine s_nil (hK23 _ _ (genC [(0, (Vp g.tb 0)), (6, (Vp q.2 0)), (19, Vf)] ⟨g19, g20, rfl, trivial⟩ ?_))
  clear hK23; rintro E ⟨g24, g25, g26, -⟩
  refine cond_f g26 ?_
  refine seq fun K27 hK27 => ?_
  refine reg ?_
  refine s_y (y_move (v := (Vp q.2 0)) g25) rfl ?_
  refine s_y (y_nil rfl) rfl ?_
  refine s_y (y_fld fo36_5 rfl) rfl ?_
  have hb28 := (hk9.get0 hq2)
  refine s_y (y_load (v := (Vi (q.1.sessions))) rfl (rd_sc sc3 (On.now hb28) rfl)) rfl ?_
  refine s_y (y_eql rfl rfl) rfl ?_
  refine s_y (y_assign (v := (.bool (decide ((q.1.sessions : Int) = 0)))) rfl) rfl ?_
  refine s_nil (hK27 _ _ (genC [(0, (Vp g.tb 0)), (6, (Vp q.2 0)), (22, (.bool (decide ((q.1.sessions : Int) = 0))))] ⟨g24, g25, rfl, trivial⟩ ?_))
  clear hK27; rintro E ⟨g29, g30, g31, -⟩
  refine cond_d g31 (fun c32 => ?_) (fun c32 => ?_)
  · refine seq fun K33 hK33 => ?_
    refine reg ?_
    refine s_y (y_assign (v := Vf) rfl) rfl ?_
    refine s_y (y_assign (v := (Vi 11)) rfl) rfl ?_
    refine s_nil (hK33 _ _ (genC [(4, Vf), (5, (Vi 11))] ⟨rfl, rfl, trivial⟩ ?_))
    clear hK33; rintro E ⟨g34, g35, -⟩
    refine ret (hret _ _ [Vf, (Vi 11)] ⟨g34, g35, trivial⟩ ?_)
    exact ⟨rfl, ka10⟩
  · omega

theorem drop_stay {g : BibG} {st : BibS} {w : World} (h : BibIs g st w) (q : Binding × Nat) (hq : q ∈ st.l) (hs : 1 ≤ q.1.sessions ∧ q.1.sessions ≤ 4611686018427387904) (hst : q.1.static = true ∨ 1 < q.1.sessions) : Rets Tryd.prog 17 #[(.pointer (some ⟨g.tb, 0, none⟩)), (.int .i64 (q.1.id))] w fun v w' => v = .tuple #[.bool false, .int .i64 0] ∧ BibIs g ⟨st.last, updL st.l q.1.id fun _ => addS q.1 (-1), st.h⟩ w' ∧ Kp (· = q.2) w w' := by
  refine enter Tryd.func17 rfl Tryd.ntmps17 rfl fun Q hret hend E hE => ?_
  have g1 : E 0 = (Vp g.tb 0) := hE 0
  have g2 : E 1 = (Vi (q.1.id)) := hE 1
  clear hE
  have hb0 := h.blk; have hm0 := h.map; have hT0 := h.tb; have hn1 : g.tb ≠ g.mb := blk_ne_map h.blk h.map
  have hag := h.aget hq; have hq3 := h.good hq; unfold inI at hq3; have hq2 := h.box q hq
  refine seq fun K3 hK3 => ?_
  refine reg ?_
  refine s_y (y_assign (v := Vf) rfl) rfl ?_
  refine s_y (y_assign (v := (Vi 0)) rfl) rfl ?_
  refine s_nil (hK3 _ _ (genC [(0, (Vp g.tb 0)), (1, (Vi (q.1.id)))] ⟨g1, g2, trivial⟩ ?_))
  clear hK3; rintro E ⟨g4, g5, -⟩
  refine seq fun K6 hK6 => ?_
  refine seq fun K7 hK7 => ?_
  refine reg ?_
  refine s_y (y_move (v := (Vp g.tb 0)) g4) rfl ?_
  refine s_e (e_call ca49 (args := [(Vp g.tb 0)]) rfl (bnone_spec h)) rfl ?_
  rintro _ w8 ⟨rfl, hk9⟩
  have ka10 : Kp (· = q.2) w w8 := (Kp.then0 (Kp.refl _ _) hk9)
  refine s_nil (hK7 _ _ (genC [(0, (Vp g.tb 0)), (1, (Vi (q.1.id))), (9, Vf)] ⟨g4, g5, rfl, trivial⟩ ?_))
  clear hK7; rintro E ⟨g11, g12, g13, -⟩
  refine cond_f g13 ?_
  refine skip (hK6 _ _ (genC [(0, (Vp g.tb 0)), (1, (Vi (q.1.id)))] ⟨g11, g12, trivial⟩ ?_))
  clear hK6; rintro E ⟨g14, g15, -⟩
  refine seq fun K16 hK16 => ?_
  refine reg ?_
  refine s_y (y_move (v := (Vp g.tb 0)) g14) rfl ?_
  refine s_y (y_nil rfl) rfl ?_
  refine s_y (y_fld fo95_3 rfl) rfl ?_
  have hb17 := (hk9.get0 hb0)
  refine s_y (y_load (v := (.map (some g.mb))) rfl (rd_sc sc91 (On.now hb17) rfl)) rfl ?_
  refine s_y (y_move (v := (Vi (q.1.id))) g15) rfl ?_
  have hf18 := (hm0.kp hk9 id)
  refine s_y (y_lookup2_some kf3 Tryd.underlying91 ze101 (MapOn.now hf18) rfl rfl (show inI q.1.id from inI_of (by omega) (by omega)) hag) rfl ?_
  refine s_y (y_move (v := (.tuple #[(Vp q.2 0), Vt])) rfl) rfl ?_
  refine s_y (y_ext rfl (v := (Vp q.2 0)) rfl) rfl ?_
  refine s_y (y_ext rfl (v := Vt) rfl) rfl ?_
  refine s_y (y_assign (v := (Vp q.2 0)) rfl) rfl ?_
  refine s_y (y_assign (v := Vt) rfl) rfl ?_
  refine s_nil (hK16 _ _ (genC [(0, (Vp g.tb 0)), (6, (Vp q.2 0)), (7, Vt)] ⟨g14, rfl, rfl, trivial⟩ ?_))
  clear hK16; rintro E ⟨g19, g20, g21, -⟩
  refine seq fun K22 hK22 => ?_
  refine block ?_
  refine seq fun K23 hK23 => ?_
  refine reg ?_
  refine s_y (y_move (v := Vt) g21) rfl ?_
  refine s_y (y_not rfl) rfl ?_
  refine s_y (y_assign (v := Vf) rfl) rfl ?_
  refine s_nil (hK23 _ _ (genC [(0, (Vp g.tb 0)), (6, (Vp q.2 0)), (19, Vf)] ⟨g19, g20, rfl, trivial⟩ ?_))
  clear hK23; rintro E ⟨g24, g25, g26, -⟩
  refine cond_f g26 ?_
  refine seq fun K27 hK27 => ?_
  refine reg ?_
  refine s_y (y_move (v := (Vp q.2 0)) g25) rfl ?_
  refine s_y (y_nil rfl) rfl ?_
  refine s_y (y_fld fo36_5 rfl) rfl ?_
  have hb28 := (hk9.get0 hq2)
  refine s_y (y_load (v := (Vi (q.1.sessions))) rfl (rd_sc sc3 (On.now hb28) rfl)) rfl ?_
  refine s_y (y_eql rfl rfl) rfl ?_
  refine s_y (y_assign (v := (.bool (decide ((q.1.sessions : Int) = 0)))) rfl) rfl ?_
  refine s_nil (hK27 _ _ (genC [(0, (Vp g.tb 0)), (6, (Vp q.2 0)), (22, (.bool (decide ((q.1.sessions : Int) = 0))))] ⟨g24, g25, rfl, trivial⟩ ?_))
  clear hK27; rintro E ⟨g29, g30, g31, -⟩
  refine cond_d g31 (fun c32 => ?_) (fun c32 => ?_)
  · omega
  · refine skip (hK22 _ _ (genC [(0, (Vp g.tb 0)), (6, (Vp q.2 0))] ⟨g29, g30, trivial⟩ ?_))
    clear hK22; rintro E ⟨g33, g34, -⟩
    refine seq fun K35 hK35 => ?_
    refine reg ?_
    refine s_y (y_move (v := (Vp q.2 0)) g34) rfl ?_
    refine s_y (y_nil rfl) rfl ?_
    refine s_y (y_fld fo36_5 rfl) rfl ?_
    refine s_y (y_load (v := (Vi (q.1.sessions))) rfl (rd_sc sc3 (On.now hb28) rfl)) rfl ?_
    refine s_y (y_sub rfl rfl (c := q.1.sessions - 1) (by omega) rfl) rfl ?_
    refine s_y (y_nil rfl) rfl ?_
    refine s_y (y_fld fo36_5 rfl) rfl ?_
    refine s_e0 (e_storeV (cs' := #[(Vi (q.1.id)), (Vi (q.1.proto)), (u8 q.1.inn.addr.b0), (u8 q.1.inn.addr.b1), (u8 q.1.inn.addr.b2), (u8 q.1.inn.addr.b3), (u8 q.1.inn.addr.b4), (u8 q.1.inn.addr.b5), (u8 q.1.inn.addr.b6), (u8 q.1.inn.addr.b7), (u8 q.1.inn.addr.b8), (u8 q.1.inn.addr.b9), (u8 q.1.inn.addr.b10), (u8 q.1.inn.addr.b11), (u8 q.1.inn.addr.b12), (u8 q.1.inn.addr.b13), (u8 q.1.inn.addr.b14), (u8 q.1.inn.addr.b15), (Vi (q.1.inn.port)), (u8 q.1.out.addr.a), (u8 q.1.out.addr.b), (u8 q.1.out.addr.c), (u8 q.1.out.addr.d), (Vi (q.1.out.port)), (.bool (q.1.static)), (Vi (q.1.sessions - 1))]) [(Vi (q.1.sessions - 1))] rfl (v := (Vi (q.1.sessions - 1))) rfl rfl sz3 hb28 rfl rfl rfl) ?_
    rintro _ w36 ⟨hb37, hk38⟩
    have ka39 := (Kp.trans ka10 hk38 (fun _ _ e => e))
    refine s_nil (hK35 _ _ (genC [(0, (Vp g.tb 0)), (6, (Vp q.2 0))] ⟨g33, g34, trivial⟩ ?_))
    clear hK35; rintro E ⟨g40, g41, -⟩
    refine seq fun K42 hK42 => ?_
    refine seq fun K43 hK43 => ?_
    refine reg ?_
    refine s_y (y_move (v := (Vp q.2 0)) g41) rfl ?_
    refine s_y (y_nil rfl) rfl ?_
    refine s_y (y_fld fo36_4 rfl) rfl ?_
    refine s_y (y_load (v := (.bool (q.1.static))) rfl (rd_sc sc4 (On.now hb37) rfl)) rfl ?_
    refine s_y (y_move (v := (.bool (q.1.static))) rfl) rfl ?_
    refine (Bool.eq_false_or_eq_true (q.1.static)).elim (fun c44 => ?_) (fun c44 => ?_)
    · refine s_no (.no rfl (c := true) (congrArg Value.bool c44) rfl) rfl ?_
      refine s_no (.no rfl (c := true) (congrArg Value.bool c44) rfl) rfl ?_
      refine s_no (.no rfl (c := true) (congrArg Value.bool c44) rfl) rfl ?_
      refine s_no (.no rfl (c := true) (congrArg Value.bool c44) rfl) rfl ?_
      refine s_no (.no rfl (c := true) (congrArg Value.bool c44) rfl) rfl ?_
      refine s_y (y_pick_t (congrArg Value.bool c44) (v := Vt) rfl) rfl ?_
      refine s_nil (hK43 _ _ (genC [(0, (Vp g.tb 0)), (6, (Vp q.2 0)), (45, Vt)] ⟨g40, g41, rfl, trivial⟩ ?_))
      clear hK43; rintro E ⟨g45, g46, g47, -⟩
      refine cond_t g47 ?_
      refine seq fun K48 hK48 => ?_
      refine reg ?_
      refine s_y (y_assign (v := Vf) rfl) rfl ?_
      refine s_y (y_assign (v := (Vi 0)) rfl) rfl ?_
      refine s_nil (hK48 _ _ (genC [(4, Vf), (5, (Vi 0))] ⟨rfl, rfl, trivial⟩ ?_))
      clear hK48; rintro E ⟨g49, g50, -⟩
      refine ret (hret _ _ [Vf, (Vi 0)] ⟨g49, g50, trivial⟩ ?_)
      exact ⟨rfl, BibIs.upd h hq ka39 (addS q.1 (-1)) rfl rfl rfl rfl hb37, ka39⟩
    · refine s_gy (.yes rfl (congrArg Value.bool c44)) (y_move (v := (Vp q.2 0)) g41) rfl ?_
      refine s_gy (.yes rfl (congrArg Value.bool c44)) (y_nil rfl) rfl ?_
      refine s_gy (.yes rfl (congrArg Value.bool c44)) (y_fld fo36_5 rfl) rfl ?_
      refine s_gy (.yes rfl (congrArg Value.bool c44)) (y_load (v := (Vi (q.1.sessions - 1))) rfl (rd_sc sc3 (On.now hb37) rfl)) rfl ?_
      refine s_gy (.yes rfl (congrArg Value.bool c44)) (y_gtr rfl rfl) rfl ?_
      refine s_y (y_pick_f (congrArg Value.bool c44) (v := (.bool (decide ((0 : Int) < q.1.sessions - 1)))) rfl) rfl ?_
      refine s_nil (hK43 _ _ (genC [(0, (Vp g.tb 0)), (6, (Vp q.2 0)), (45, (.bool (decide ((0 : Int) < q.1.sessions - 1))))] ⟨g40, g41, rfl, trivial⟩ ?_))
      clear hK43; rintro E ⟨g51, g52, g53, -⟩
      refine cond_d g53 (fun c54 => ?_) (fun c54 => ?_)
      · refine seq fun K55 hK55 => ?_
        refine reg ?_
        refine s_y (y_assign (v := Vf) rfl) rfl ?_
        refine s_y (y_assign (v := (Vi 0)) rfl) rfl ?_
        refine s_nil (hK55 _ _ (genC [(4, Vf), (5, (Vi 0))] ⟨rfl, rfl, trivial⟩ ?_))
        clear hK55; rintro E ⟨g56, g57, -⟩
        refine ret (hret _ _ [Vf, (Vi 0)] ⟨g56, g57, trivial⟩ ?_)
        exact ⟨rfl, BibIs.upd h hq ka39 (addS q.1 (-1)) rfl rfl rfl rfl hb37, ka39⟩
      · exact (hst.elim (fun h9 => by have h8 : q.1.static = false := (by assumption); rw [h9] at h8; cases h8) (fun h9 => by omega) : False).elim

end Go.Proofs.YtdcnblafepgheaaDoor
