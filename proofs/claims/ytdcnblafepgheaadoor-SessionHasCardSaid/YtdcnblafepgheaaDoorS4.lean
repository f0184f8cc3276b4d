/-
  Written by a program (wip/walks).
-/
import Derived.Test.YtdcnblafepgheaaDoorS3
namespace Go.Proofs.YtdcnblafepgheaaDoor
open Go Go.V
set_option maxRecDepth 100000
theorem upush {l : List Thing} {n : Nat} (hl : l.length = n) (h : HeapN l n) (x : Thing) : UpI (l ++ [x]) (n + 1) n := by
  subst hl; have := UpI.push h x; simpa using this
/-- what a heap is behind a new thing -/
structure PuRes (g : OG) (rb n : Nat) (l : List Thing) (w : World) (rb' cap' : Nat) (l' : List Thing) (m' : List (Int × Int)) (w' : World) : Prop where
  o : OAt g rb' cap' (n + 1) l' m' w'
  pos : PosOK l' m'
  perm : l'.Perm l
  heap : HeapN l' (n + 1)
  new : rb = rb' ∨ w.heap.size ≤ rb'
theorem hpush0_spec {g : OG} {w : World} (hb0 : Blk w g.ob #[.slice none 0 0, .map (some g.mb)] 153) (hm0 : MapAt (fun n : Int => .int .i64 n) (fun n : Int => Value.int .i64 n) inI w g.mb ([] : List (Int × Int))) (x : Thing) (hi : inI x.id) : Rets Tryd.prog 91 #[(.iface 150 (.pointer (some ⟨g.ob, 0, none⟩))), (.iface 164 (.agg #[.int .i64 (x.id), .int .i64 (x.due)]))] w fun v w' => (∃ rb' cap' l' m', v = .tuple #[] ∧ PuRes g w.heap.size 0 (([] : List Thing) ++ [x]) w rb' cap' l' m' w') ∧ Kp (fun k => k = g.ob ∨ k = g.mb) w w' := by
  refine enter Tryd.func91 rfl Tryd.ntmps91 rfl fun Q hret hend E hE => ?_
  have g1 : E 0 = (.iface 150 (Vp g.ob 0)) := hE 0
  have g2 : E 1 = (.iface 164 (.agg #[.int .i64 (x.id), .int .i64 (x.due)])) := hE 1
  clear hE
  have hn2 : g.ob ≠ g.mb := blk_ne_map hb0 hm0
  refine seq fun K3 hK3 => ?_
  refine reg ?_
  refine s_y (y_move (v := (.iface 150 (Vp g.ob 0))) g1) rfl ?_
  refine s_y (y_move (v := (.iface 164 (.agg #[.int .i64 (x.id), .int .i64 (x.due)]))) g2) rfl ?_
  refine s_e (e_invoke met_Push rfl (args := [(.iface 164 (.agg #[.int .i64 (x.id), .int .i64 (x.due)]))]) rfl (opush0_spec hb0 hm0 x hi)) rfl ?_
  rintro _ w4 ⟨⟨rb7, cap8, rfl, hP5⟩, hk6⟩
  rcases PRes.new hP5 with hn9 | hn9
  · have hn9 := Nat.le_of_eq hn9
    have ka10 : Kp (fun k => k = g.ob ∨ k = g.mb) w w4 := (Kp.trans (Kp.refl _ _) hk6 (fun _ _ e => e))
    have hbg9 := (PRes.o hP5).big
    refine s_nil (hK3 _ _ (genC [(0, (.iface 150 (Vp g.ob 0)))] ⟨g1, trivial⟩ ?_))
    clear hK3; rintro E ⟨g11, -⟩
    refine reg ?_
    refine s_y (y_move (v := (.iface 150 (Vp g.ob 0))) g11) rfl ?_
    refine s_y (y_move (v := (.iface 150 (Vp g.ob 0))) g11) rfl ?_
    refine s_e (e_invoke met_Len rfl (args := []) rfl (olen_spec (PRes.o hP5))) rfl ?_
    rintro _ w12 ⟨rfl, hk13⟩
    have ka14 := (Kp.then0 ka10 hk13)
    refine s_y (y_sub rfl rfl (c := ((0 : Nat) : Int)) (by omega) (by omega)) rfl ?_
    have hf15 := (OAt.kp (PRes.o hP5) hk13 id id id)
    refine s_e (e_call ca108 (args := [(.iface 150 (Vp g.ob 0)), (Vi (((0 : Nat) : Int)))]) rfl (up_spec hf15 (PRes.pos hP5) (0 + 1) 0 (by omega) (by omega) (upush (l := []) (n := 0) rfl (fun k h0 hk => absurd hk (Nat.not_lt_zero k)) x))) rfl ?_
    rintro _ w16 ⟨l17, m18, rfl, hr19, hh20⟩
    have ka21 := (Kp.trans ka14 (HRes.kp hr19) fun i hi e => (fun e => e.elim (fun e => absurd hi (Nat.not_lt.2 (nl (nl (Nat.le_refl _) hn9) (Nat.le_of_eq e.symm)))) (fun e => (.inr e))) e)
    refine s_nil (hend _ _ [] trivial ?_)
    exact ⟨⟨_, _, _, _, rfl, ⟨(HRes.o hr19), (HRes.pos hr19), HRes.perm hr19, hh20, .inr (nl (Nat.le_refl _) hn9)⟩⟩, ka21⟩
  · have ka22 : Kp (fun k => k = g.ob ∨ k = g.mb) w w4 := (Kp.trans (Kp.refl _ _) hk6 (fun _ _ e => e))
    have hbg9 := (PRes.o hP5).big
    refine s_nil (hK3 _ _ (genC [(0, (.iface 150 (Vp g.ob 0)))] ⟨g1, trivial⟩ ?_))
    clear hK3; rintro E ⟨g23, -⟩
    refine reg ?_
    refine s_y (y_move (v := (.iface 150 (Vp g.ob 0))) g23) rfl ?_
    refine s_y (y_move (v := (.iface 150 (Vp g.ob 0))) g23) rfl ?_
    refine s_e (e_invoke met_Len rfl (args := []) rfl (olen_spec (PRes.o hP5))) rfl ?_
    rintro _ w24 ⟨rfl, hk25⟩
    have ka26 := (Kp.then0 ka22 hk25)
    refine s_y (y_sub rfl rfl (c := ((0 : Nat) : Int)) (by omega) (by omega)) rfl ?_
    have hf27 := (OAt.kp (PRes.o hP5) hk25 id id id)
    refine s_e (e_call ca108 (args := [(.iface 150 (Vp g.ob 0)), (Vi (((0 : Nat) : Int)))]) rfl (up_spec hf27 (PRes.pos hP5) (0 + 1) 0 (by omega) (by omega) (upush (l := []) (n := 0) rfl (fun k h0 hk => absurd hk (Nat.not_lt_zero k)) x))) rfl ?_
    rintro _ w28 ⟨l29, m30, rfl, hr31, hh32⟩
    have ka33 := (Kp.trans ka26 (HRes.kp hr31) fun i hi e => (fun e => e.elim (fun e => absurd hi (Nat.not_lt.2 (nl (nl (Nat.le_refl _) hn9) (Nat.le_of_eq e.symm)))) (fun e => (.inr e))) e)
    refine s_nil (hend _ _ [] trivial ?_)
    exact ⟨⟨_, _, _, _, rfl, ⟨(HRes.o hr31), (HRes.pos hr31), HRes.perm hr31, hh32, .inr (nl (Nat.le_refl _) hn9)⟩⟩, ka33⟩

theorem hpush_spec {g : OG} {rb cap n : Nat} {l : List Thing} {m : List (Int × Int)} {w : World} (h : OAt g rb cap n l m w) (hp : PosOK l m) (hH : HeapN l n) (x : Thing) (hx : aget m x.id = none) (hi : inI x.id) (hc : n ≤ 1000000) : Rets Tryd.prog 91 #[(.iface 150 (.pointer (some ⟨g.ob, 0, none⟩))), (.iface 164 (.agg #[.int .i64 (x.id), .int .i64 (x.due)]))] w fun v w' => (∃ rb' cap' l' m', v = .tuple #[] ∧ PuRes g rb n (l ++ [x]) w rb' cap' l' m' w') ∧ Kp (fun k => k = g.ob ∨ k = rb ∨ k = g.mb) w w' := by
  refine enter Tryd.func91 rfl Tryd.ntmps91 rfl fun Q hret hend E hE => ?_
  have g1 : E 0 = (.iface 150 (Vp g.ob 0)) := hE 0
  have g2 : E 1 = (.iface 164 (.agg #[.int .i64 (x.id), .int .i64 (x.due)])) := hE 1
  clear hE
  have hbg := h.big; have hln := h.len
  refine seq fun K3 hK3 => ?_
  refine reg ?_
  refine s_y (y_move (v := (.iface 150 (Vp g.ob 0))) g1) rfl ?_
  refine s_y (y_move (v := (.iface 164 (.agg #[.int .i64 (x.id), .int .i64 (x.due)]))) g2) rfl ?_
  refine s_e (e_invoke met_Push rfl (args := [(.iface 164 (.agg #[.int .i64 (x.id), .int .i64 (x.due)]))]) rfl (opush_spec h hp x hx hi hc)) rfl ?_
  rintro _ w4 ⟨⟨rb7, cap8, rfl, hP5⟩, hk6⟩
  rcases PRes.new hP5 with rfl | hn9
  · have ka10 : Kp (fun k => k = g.ob ∨ k = rb ∨ k = g.mb) w w4 := (Kp.trans (Kp.refl _ _) hk6 (fun _ _ e => e))
    have hbg9 := (PRes.o hP5).big
    refine s_nil (hK3 _ _ (genC [(0, (.iface 150 (Vp g.ob 0)))] ⟨g1, trivial⟩ ?_))
    clear hK3; rintro E ⟨g11, -⟩
    refine reg ?_
    refine s_y (y_move (v := (.iface 150 (Vp g.ob 0))) g11) rfl ?_
    refine s_y (y_move (v := (.iface 150 (Vp g.ob 0))) g11) rfl ?_
    refine s_e (e_invoke met_Len rfl (args := []) rfl (olen_spec (PRes.o hP5))) rfl ?_
    rintro _ w12 ⟨rfl, hk13⟩
    have ka14 := (Kp.then0 ka10 hk13)
    refine s_y (y_sub rfl rfl (c := ((n : Nat) : Int)) (by omega) (by omega)) rfl ?_
    have hf15 := (OAt.kp (PRes.o hP5) hk13 id id id)
    refine s_e (e_call ca108 (args := [(.iface 150 (Vp g.ob 0)), (Vi (((n : Nat) : Int)))]) rfl (up_spec hf15 (PRes.pos hP5) (n + 1) n (by omega) (by omega) (upush hln hH x))) rfl ?_
    rintro _ w16 ⟨l17, m18, rfl, hr19, hh20⟩
    have ka21 := (Kp.trans ka14 (HRes.kp hr19) (fun _ _ e => (fun e => e.elim (fun e => (.inr (.inl e))) (fun e => (.inr (.inr e)))) e))
    refine s_nil (hend _ _ [] trivial ?_)
    exact ⟨⟨_, _, _, _, rfl, ⟨(HRes.o hr19), (HRes.pos hr19), HRes.perm hr19, hh20, .inl rfl⟩⟩, ka21⟩
  · have ka22 : Kp (fun k => k = g.ob ∨ k = rb ∨ k = g.mb) w w4 := (Kp.trans (Kp.refl _ _) hk6 (fun _ _ e => e))
    have hbg9 := (PRes.o hP5).big
    refine s_nil (hK3 _ _ (genC [(0, (.iface 150 (Vp g.ob 0)))] ⟨g1, trivial⟩ ?_))
    clear hK3; rintro E ⟨g23, -⟩
    refine reg ?_
    refine s_y (y_move (v := (.iface 150 (Vp g.ob 0))) g23) rfl ?_
    refine s_y (y_move (v := (.iface 150 (Vp g.ob 0))) g23) rfl ?_
    refine s_e (e_invoke met_Len rfl (args := []) rfl (olen_spec (PRes.o hP5))) rfl ?_
    rintro _ w24 ⟨rfl, hk25⟩
    have ka26 := (Kp.then0 ka22 hk25)
    refine s_y (y_sub rfl rfl (c := ((n : Nat) : Int)) (by omega) (by omega)) rfl ?_
    have hf27 := (OAt.kp (PRes.o hP5) hk25 id id id)
    refine s_e (e_call ca108 (args := [(.iface 150 (Vp g.ob 0)), (Vi (((n : Nat) : Int)))]) rfl (up_spec hf27 (PRes.pos hP5) (n + 1) n (by omega) (by omega) (upush hln hH x))) rfl ?_
    rintro _ w28 ⟨l29, m30, rfl, hr31, hh32⟩
    have ka33 := (Kp.trans ka26 (HRes.kp hr31) fun i hi e => (fun e => e.elim (fun e => absurd hi (Nat.not_lt.2 (nl (nl (Nat.le_refl _) hn9) (Nat.le_of_eq e.symm)))) (fun e => (.inr (.inr e)))) e)
    refine s_nil (hend _ _ [] trivial ?_)
    exact ⟨⟨_, _, _, _, rfl, ⟨(HRes.o hr31), (HRes.pos hr31), HRes.perm hr31, hh32, .inr (nl (Nat.le_refl _) hn9)⟩⟩, ka33⟩

theorem hfix_spec {g : OG} {rb cap n : Nat} {l : List Thing} {m : List (Int × Int)} {w : World} (h : OAt g rb cap n l m w) (hp : PosOK l m) (i : Nat) (hi : i < n) (hd : DownI l n i False) : Rets Tryd.prog 92 #[(.iface 150 (.pointer (some ⟨g.ob, 0, none⟩))), (.int .i64 (((i : Nat) : Int)))] w fun v w' => ∃ l' m', v = .tuple #[] ∧ HRes g rb cap n l n w l' m' w' ∧ HeapN l' n := by
  refine enter Tryd.func92 rfl Tryd.ntmps92 rfl fun Q hret hend E hE => ?_
  have g1 : E 0 = (.iface 150 (Vp g.ob 0)) := hE 0
  have g2 : E 1 = (Vi (((i : Nat) : Int))) := hE 1
  clear hE
  have hbg := h.big; have hln := h.len
  refine seq fun K3 hK3 => ?_
  refine reg ?_
  refine s_y (y_move (v := (.iface 150 (Vp g.ob 0))) g1) rfl ?_
  refine s_y (y_move (v := (Vi (((i : Nat) : Int)))) g2) rfl ?_
  refine s_y (y_move (v := (.iface 150 (Vp g.ob 0))) g1) rfl ?_
  refine s_e (e_invoke met_Len rfl (args := []) rfl (olen_spec h)) rfl ?_
  rintro _ w4 ⟨rfl, hk5⟩
  have ka6 : Kp (fun k => k = rb ∨ k = g.mb) w w4 := (Kp.then0 (Kp.refl _ _) hk5)
  have hf7 := (OAt.kp h hk5 id id id)
  refine s_e (e_call ca109 (args := [(.iface 150 (Vp g.ob 0)), (Vi (((i : Nat) : Int))), (Vi (((n : Nat) : Int)))]) rfl (down_spec hf7 hp n i (by omega) (by omega) hd)) rfl ?_
  rintro _ w8 ⟨l9, m10, b11, rfl, hr12, ht13, hf14⟩
  have ka15 := (Kp.trans ka6 (HRes.kp hr12) (fun _ _ e => e))
  refine s_y (y_not rfl) rfl ?_
  refine s_nil (hK3 _ _ (genC [(0, (.iface 150 (Vp g.ob 0))), (1, (Vi (((i : Nat) : Int)))), (9, (.bool (!(b11))))] ⟨g1, g2, rfl, trivial⟩ ?_))
  clear hK3; rintro E ⟨g16, g17, g18, -⟩
  refine cond_b g18 (fun c19 => ?_) (fun c19 => ?_)
  · refine reg ?_
    refine s_y (y_move (v := (.iface 150 (Vp g.ob 0))) g16) rfl ?_
    refine s_y (y_move (v := (Vi (((i : Nat) : Int)))) g17) rfl ?_
    refine s_e (e_call ca108 (args := [(.iface 150 (Vp g.ob 0)), (Vi (((i : Nat) : Int)))]) rfl (up_spec (HRes.o hr12) (HRes.pos hr12) n i (by omega) (by omega) (hf14 (by simpa using c19)))) rfl ?_
    rintro _ w20 ⟨l21, m22, rfl, hr23, hh24⟩
    have ka25 := (Kp.trans ka15 (HRes.kp hr23) (fun _ _ e => e))
    refine s_nil (hend _ _ [] trivial ?_)
    exact ⟨l21, m22, rfl, ⟨(HRes.o hr23), (HRes.pos hr23), (HRes.perm hr23).trans (HRes.perm hr12), (HRes.drop hr23).trans (HRes.drop hr12), ka25⟩, hh24⟩
  · refine skip (hend _ _ [] trivial ?_)
    exact ⟨l9, m10, rfl, ⟨(HRes.o hr12), (HRes.pos hr12), HRes.perm hr12, HRes.drop hr12, ka15⟩, ht13 (by simpa using c19)⟩

theorem hremove_spec {g : OG} {rb cap n : Nat} {l : List Thing} {m : List (Int × Int)} {w : World} (h : OAt g rb cap (n + 1) l m w) (hp : PosOK l m) (hH : HeapN l (n + 1)) (i : Nat) (hi : i < n + 1) : Rets Tryd.prog 93 #[(.iface 150 (.pointer (some ⟨g.ob, 0, none⟩))), (.int .i64 (((i : Nat) : Int)))] w fun v w' => (∃ l' m', v = .iface 164 (.agg (ix l i).cs.toArray) ∧ OAt g rb cap n l' m' w' ∧ PosOK l' m' ∧ (l' ++ [ix l i]).Perm l ∧ HeapN l' n) ∧ Kp (fun k => k = g.ob ∨ k = rb ∨ k = g.mb) w w' := by
  refine enter Tryd.func93 rfl Tryd.ntmps93 rfl fun Q hret hend E hE => ?_
  have g1 : E 0 = (.iface 150 (Vp g.ob 0)) := hE 0
  have g2 : E 1 = (Vi (((i : Nat) : Int))) := hE 1
  clear hE
  have hbg := h.big; have hln := h.len
  refine seq fun K3 hK3 => ?_
  refine reg ?_
  refine s_y (y_assign (v := Go.Value.nilIface) rfl) rfl ?_
  refine s_nil (hK3 _ _ (genC [(0, (.iface 150 (Vp g.ob 0))), (1, (Vi (((i : Nat) : Int))))] ⟨g1, g2, trivial⟩ ?_))
  clear hK3; rintro E ⟨g4, g5, -⟩
  refine seq fun K6 hK6 => ?_
  refine reg ?_
  refine s_y (y_move (v := (.iface 150 (Vp g.ob 0))) g4) rfl ?_
  refine s_e (e_invoke met_Len rfl (args := []) rfl (olen_spec h)) rfl ?_
  rintro _ w7 ⟨rfl, hk8⟩
  have ka9 : Kp (fun k => k = g.ob ∨ k = rb ∨ k = g.mb) w w7 := (Kp.then0 (Kp.refl _ _) hk8)
  refine s_y (y_sub rfl rfl (c := ((n : Nat) : Int)) (by omega) (by omega)) rfl ?_
  refine s_y (y_assign (v := (Vi (((n : Nat) : Int)))) rfl) rfl ?_
  refine s_nil (hK6 _ _ (genC [(0, (.iface 150 (Vp g.ob 0))), (1, (Vi (((i : Nat) : Int)))), (5, (Vi (((n : Nat) : Int))))] ⟨g4, g5, rfl, trivial⟩ ?_))
  clear hK6; rintro E ⟨g10, g11, g12, -⟩
  refine seq fun K13 hK13 => ?_
  refine seq fun K14 hK14 => ?_
  refine reg ?_
  refine s_y (y_move (v := (Vi (((n : Nat) : Int)))) g12) rfl ?_
  refine s_y (y_move (v := (Vi (((i : Nat) : Int)))) g11) rfl ?_
  refine s_y (y_neq rfl rfl) rfl ?_
  refine s_nil (hK14 _ _ (genC [(0, (.iface 150 (Vp g.ob 0))), (1, (Vi (((i : Nat) : Int)))), (5, (Vi (((n : Nat) : Int)))), (11, (.bool (decide ((((n : Nat) : Int) : Int) ≠ ((i : Nat) : Int)))))] ⟨g10, g11, g12, rfl, trivial⟩ ?_))
  clear hK14; rintro E ⟨g15, g16, g17, g18, -⟩
  refine cond_d g18 (fun c19 => ?_) (fun c19 => ?_)
  · refine seq fun K20 hK20 => ?_
    refine reg ?_
    refine s_y (y_move (v := (.iface 150 (Vp g.ob 0))) g15) rfl ?_
    refine s_y (y_move (v := (Vi (((i : Nat) : Int)))) g16) rfl ?_
    refine s_y (y_move (v := (Vi (((n : Nat) : Int)))) g17) rfl ?_
    have hf21 := (OAt.kp h hk8 id id id)
    refine s_e (e_invoke met_Swap rfl (args := [(Vi (((i : Nat) : Int))), (Vi (((n : Nat) : Int)))]) rfl (swap_spec hf21 i n (by omega) (by omega) hp)) rfl ?_
    rintro _ w22 ⟨rfl, ho24, hk23⟩
    have ka25 := (Kp.trans ka9 hk23 (fun _ _ e => (fun e => e.elim (fun e => (.inr (.inl e))) (fun e => (.inr (.inr e)))) e))
    have hps9 := PosOK.swap hp (show i < l.length by omega) (show n < l.length by omega); have hsl9 := swpL_len l i n; have hda9 := HeapN.swpI (i := i) hH (by omega) (by omega)
    refine s_nil (hK20 _ _ (genC [(0, (.iface 150 (Vp g.ob 0))), (1, (Vi (((i : Nat) : Int)))), (5, (Vi (((n : Nat) : Int))))] ⟨g15, g16, g17, trivial⟩ ?_))
    clear hK20; rintro E ⟨g26, g27, g28, -⟩
    refine seq fun K29 hK29 => ?_
    refine reg ?_
    refine s_y (y_move (v := (.iface 150 (Vp g.ob 0))) g26) rfl ?_
    refine s_y (y_move (v := (Vi (((i : Nat) : Int)))) g27) rfl ?_
    refine s_y (y_move (v := (Vi (((n : Nat) : Int)))) g28) rfl ?_
    refine s_e (e_call ca109 (args := [(.iface 150 (Vp g.ob 0)), (Vi (((i : Nat) : Int))), (Vi (((n : Nat) : Int)))]) rfl (down_spec ho24 hps9 n i (by omega) (by omega) hda9)) rfl ?_
    rintro _ w30 ⟨l31, m32, b33, rfl, hr34, ht35, hf36⟩
    have ka37 := (Kp.trans ka25 (HRes.kp hr34) (fun _ _ e => (fun e => e.elim (fun e => (.inr (.inl e))) (fun e => (.inr (.inr e)))) e))
    refine s_y (y_not rfl) rfl ?_
    refine s_nil (hK29 _ _ (genC [(0, (.iface 150 (Vp g.ob 0))), (1, (Vi (((i : Nat) : Int)))), (20, (.bool (!(b33))))] ⟨g26, g27, rfl, trivial⟩ ?_))
    clear hK29; rintro E ⟨g38, g39, g40, -⟩
    refine cond_b g40 (fun c41 => ?_) (fun c41 => ?_)
    · refine reg ?_
      refine s_y (y_move (v := (.iface 150 (Vp g.ob 0))) g38) rfl ?_
      refine s_y (y_move (v := (Vi (((i : Nat) : Int)))) g39) rfl ?_
      refine s_e (e_call ca108 (args := [(.iface 150 (Vp g.ob 0)), (Vi (((i : Nat) : Int)))]) rfl (up_spec (HRes.o hr34) (HRes.pos hr34) n i (by omega) (by omega) (hf36 (by simpa using c41)))) rfl ?_
      rintro _ w42 ⟨l43, m44, rfl, hr45, hh46⟩
      have ka47 := (Kp.trans ka37 (HRes.kp hr45) (fun _ _ e => (fun e => e.elim (fun e => (.inr (.inl e))) (fun e => (.inr (.inr e)))) e))
      refine s_nil (hK13 _ _ (genC [(0, (.iface 150 (Vp g.ob 0)))] ⟨g38, trivial⟩ ?_))
      clear hK13; rintro E ⟨g48, -⟩
      refine seq fun K49 hK49 => ?_
      refine reg ?_
      refine s_y (y_move (v := (.iface 150 (Vp g.ob 0))) g48) rfl ?_
      have hperm9 : l43.Perm l := ((HRes.perm hr45).trans (HRes.perm hr34)).trans (swpL_perm (by omega) (by omega)); have hheap9 : HeapN l43 n := hh46; have hdr9 := (HRes.drop hr45).trans (HRes.drop hr34)
      have hlast9 : ix l43 n = ix l i := by rw [drop_ix hdr9 (by omega), ix_swp (by omega) (by omega), if_pos rfl]
      refine s_e (e_invoke met_Pop rfl (args := []) rfl (opop_spec (HRes.o hr45) (HRes.pos hr45))) rfl ?_
      rintro _ w50 ⟨rfl, ho52, hk51⟩
      have ka53 := (Kp.trans ka47 hk51 (fun _ _ e => (fun e => e.elim (fun e => (.inl e)) (fun e => (.inr (.inr e)))) e))
      refine s_y (y_assign (v := (.iface 164 (.agg #[.int .i64 ((ix l43 n).id), .int .i64 ((ix l43 n).due)]))) rfl) rfl ?_
      refine s_nil (hK49 _ _ (genC [(4, (.iface 164 (.agg #[.int .i64 ((ix l43 n).id), .int .i64 ((ix l43 n).due)])))] ⟨rfl, trivial⟩ ?_))
      clear hK49; rintro E ⟨g54, -⟩
      refine ret (hret _ _ [(.iface 164 (.agg #[.int .i64 ((ix l43 n).id), .int .i64 ((ix l43 n).due)]))] ⟨g54, trivial⟩ ?_)
      have hlen9 : l43.length = n + 1 := by have h9 := hperm9.length_eq; omega
      exact ⟨⟨l43.take n, _, (by first | rfl | (rw [← hlast9]; rfl)), ho52, PosOK.pop (HRes.pos hr45) hlen9, List.Perm.trans (List.Perm.of_eq (by rw [← hlast9]; exact take_last hlen9)) hperm9, HeapN.take hheap9 (Nat.le_refl _)⟩, ka53⟩
    · refine skip (hK13 _ _ (genC [(0, (.iface 150 (Vp g.ob 0)))] ⟨g38, trivial⟩ ?_))
      clear hK13; rintro E ⟨g55, -⟩
      refine seq fun K56 hK56 => ?_
      refine reg ?_
      refine s_y (y_move (v := (.iface 150 (Vp g.ob 0))) g55) rfl ?_
      have hperm9 : l31.Perm l := (HRes.perm hr34).trans (swpL_perm (by omega) (by omega)); have hheap9 : HeapN l31 n := ht35 (by simpa using c41); have hdr9 := HRes.drop hr34
      have hlast9 : ix l31 n = ix l i := by rw [drop_ix hdr9 (by omega), ix_swp (by omega) (by omega), if_pos rfl]
      refine s_e (e_invoke met_Pop rfl (args := []) rfl (opop_spec (HRes.o hr34) (HRes.pos hr34))) rfl ?_
      rintro _ w57 ⟨rfl, ho59, hk58⟩
      have ka60 := (Kp.trans ka37 hk58 (fun _ _ e => (fun e => e.elim (fun e => (.inl e)) (fun e => (.inr (.inr e)))) e))
      refine s_y (y_assign (v := (.iface 164 (.agg #[.int .i64 ((ix l31 n).id), .int .i64 ((ix l31 n).due)]))) rfl) rfl ?_
      refine s_nil (hK56 _ _ (genC [(4, (.iface 164 (.agg #[.int .i64 ((ix l31 n).id), .int .i64 ((ix l31 n).due)])))] ⟨rfl, trivial⟩ ?_))
      clear hK56; rintro E ⟨g61, -⟩
      refine ret (hret _ _ [(.iface 164 (.agg #[.int .i64 ((ix l31 n).id), .int .i64 ((ix l31 n).due)]))] ⟨g61, trivial⟩ ?_)
      have hlen9 : l31.length = n + 1 := by have h9 := hperm9.length_eq; omega
      exact ⟨⟨l31.take n, _, (by first | rfl | (rw [← hlast9]; rfl)), ho59, PosOK.pop (HRes.pos hr34) hlen9, List.Perm.trans (List.Perm.of_eq (by rw [← hlast9]; exact take_last hlen9)) hperm9, HeapN.take hheap9 (Nat.le_refl _)⟩, ka60⟩
  · refine skip (hK13 _ _ (genC [(0, (.iface 150 (Vp g.ob 0)))] ⟨g15, trivial⟩ ?_))
    clear hK13; rintro E ⟨g62, -⟩
    refine seq fun K63 hK63 => ?_
    refine reg ?_
    refine s_y (y_move (v := (.iface 150 (Vp g.ob 0))) g62) rfl ?_
    have hf64 := (OAt.kp h hk8 id id id)
    obtain rfl : i = n := by omega
    have hlast9 : ix l i = ix l i := rfl
    have hperm9 : l.Perm l := List.Perm.refl _; have hheap9 : HeapN l i := HeapN.mono hH (by omega)
    refine s_e (e_invoke met_Pop rfl (args := []) rfl (opop_spec hf64 hp)) rfl ?_
    rintro _ w65 ⟨rfl, ho67, hk66⟩
    have ka68 := (Kp.trans ka9 hk66 (fun _ _ e => (fun e => e.elim (fun e => (.inl e)) (fun e => (.inr (.inr e)))) e))
    refine s_y (y_assign (v := (.iface 164 (.agg #[.int .i64 ((ix l i).id), .int .i64 ((ix l i).due)]))) rfl) rfl ?_
    refine s_nil (hK63 _ _ (genC [(4, (.iface 164 (.agg #[.int .i64 ((ix l i).id), .int .i64 ((ix l i).due)])))] ⟨rfl, trivial⟩ ?_))
    clear hK63; rintro E ⟨g69, -⟩
    refine ret (hret _ _ [(.iface 164 (.agg #[.int .i64 ((ix l i).id), .int .i64 ((ix l i).due)]))] ⟨g69, trivial⟩ ?_)
    have hlen9 : l.length = i + 1 := by have h9 := hperm9.length_eq; omega
    exact ⟨⟨l.take i, _, (by first | rfl | (rw [← hlast9]; rfl)), ho67, PosOK.pop hp hlen9, List.Perm.trans (List.Perm.of_eq (by rw [← hlast9]; exact take_last hlen9)) hperm9, HeapN.take hheap9 (Nat.le_refl _)⟩, ka68⟩

end Go.Proofs.YtdcnblafepgheaaDoor
