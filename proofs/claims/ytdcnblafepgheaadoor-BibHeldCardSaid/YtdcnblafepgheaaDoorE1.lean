/-
  Written by a program (wip/walks).
-/
import Derived.Test.YtdcnblafepgheaaDoorDom
namespace Go.Proofs.YtdcnblafepgheaaDoor
open Go Go.V
set_option maxRecDepth 100000
structure PoolG where
  (pb lb mb cap : Nat) (l : List V4) (low high : Int)
/-- block g.pb is a pool -/
structure PoolIs (g : PoolG) (held : List (T4 × Bool)) (w : World) : Prop where
  blk : Blk w g.pb #[.slice (some ⟨g.lb, 0, none⟩) g.l.length g.cap, .int .i64 g.low, .int .i64 g.high, .map (some g.mb)] 146
  row : Elts V4.cs 4 w g.lb 0 g.l
  map : MapAt t4 (fun b : Bool => Value.bool b) (fun x => inI x.port) w g.mb held
structure PoolOk (g : PoolG) : Prop where
  ne : g.l ≠ []
  nd : g.l.Nodup
  len : g.l.length ≤ 4
  cap : g.l.length ≤ g.cap
  lo : 0 ≤ g.low
  hi : g.high ≤ 65535
  le : g.low ≤ g.high
theorem PoolIs.kp {g : PoolG} {held : List (T4 × Bool)} {w w' : World} (h : PoolIs g held w) {F : Nat → Prop} (k : Kp F w w') (h1 : ¬ F g.pb) (h2 : ¬ F g.lb) (h3 : ¬ F g.mb) : PoolIs g held w' :=
  ⟨k.get h.blk h1, h.row.kp k h2, h.map.kp k h3⟩
/-- but for its map -/
theorem PoolIs.put {g : PoolG} {held held' : List (T4 × Bool)} {w w' : World} (h : PoolIs g held w) (k : Kp (· = g.mb) w w') (m : MapAt t4 (fun b : Bool => Value.bool b) (fun x => inI x.port) w' g.mb held') : PoolIs g held' w' :=
  ⟨k.get h.blk (blk_ne_map h.blk h.map), h.row.kp k (h.row.ne_map h.map), m⟩
def isPort (n : Int) : Prop := 0 ≤ n ∧ n ≤ 65535
instance (n : Int) : Decidable (isPort n) := by unfold isPort; infer_instance
def owns (l : List V4) (t : T4) : Prop := isPort t.port ∧ t.addr ∈ l
instance (l : List V4) (t : T4) : Decidable (owns l t) := by unfold owns; infer_instance
def cls (x p : Int) : Prop := isPort x ∧ isPort p ∧ (x < 1024 ↔ p < 1024) ∧ x.tmod 2 = p.tmod 2
instance (x p : Int) : Decidable (cls x p) := by unfold cls; infer_instance
theorem port_spec (n : Int) (w : World) : Rets Tryd.prog 79 #[(.int .i64 n)] w fun v w' => v = .bool (decide (isPort n)) ∧ K0 w w' := by
  refine enter Tryd.func79 rfl Tryd.ntmps79 rfl fun Q hret hend E hE => ?_
  have g1 : E 0 = (Vi n) := hE 0
  clear hE
  refine seq fun K2 hK2 => ?_
  refine reg ?_
  refine s_y (y_assign (v := Vf) rfl) rfl ?_
  refine s_nil (hK2 _ _ (genC [(0, (Vi n))] ⟨g1, trivial⟩ ?_))
  clear hK2; rintro E ⟨g3, -⟩
  refine seq fun K4 hK4 => ?_
  refine reg ?_
  refine s_y (y_move (v := (Vi n)) g3) rfl ?_
  refine s_y (y_geq rfl rfl) rfl ?_
  refine s_y (y_move (v := (.bool (decide ((0 : Int) ≤ n)))) rfl) rfl ?_
  by_cases c5 : (0 : Int) ≤ n
  · refine s_gy (.yes rfl (congrArg Value.bool (decide_eq_true c5))) (y_move (v := (Vi n)) g3) rfl ?_
    refine s_gy (.yes rfl (congrArg Value.bool (decide_eq_true c5))) (y_leq rfl rfl) rfl ?_
    refine s_y (y_pick_t (congrArg Value.bool (decide_eq_true c5)) (v := (.bool (decide ((n : Int) ≤ 65535)))) rfl) rfl ?_
    refine s_y (y_assign (v := (.bool (decide ((n : Int) ≤ 65535)))) rfl) rfl ?_
    refine s_nil (hK4 _ _ (genC [(2, (.bool (decide ((n : Int) ≤ 65535))))] ⟨rfl, trivial⟩ ?_))
    clear hK4; rintro E ⟨g6, -⟩
    refine ret (hret _ _ [(.bool (decide ((n : Int) ≤ 65535)))] ⟨g6, trivial⟩ ?_)
    exact ⟨congrArg Value.bool (by simp [isPort, c5]), (Kp.refl _ _)⟩
  · refine s_no (.no rfl (c := false) (congrArg Value.bool (decide_eq_false c5)) rfl) rfl ?_
    refine s_no (.no rfl (c := false) (congrArg Value.bool (decide_eq_false c5)) rfl) rfl ?_
    refine s_y (y_pick_f (congrArg Value.bool (decide_eq_false c5)) (v := Vf) rfl) rfl ?_
    refine s_y (y_assign (v := Vf) rfl) rfl ?_
    refine s_nil (hK4 _ _ (genC [(2, Vf)] ⟨rfl, trivial⟩ ?_))
    clear hK4; rintro E ⟨g7, -⟩
    refine ret (hret _ _ [Vf] ⟨g7, trivial⟩ ?_)
    exact ⟨congrArg Value.bool (by simp [isPort, c5]), (Kp.refl _ _)⟩

theorem class_spec (x p : Int) (w : World) : Rets Tryd.prog 42 #[(.int .i64 x), (.int .i64 p)] w fun v w' => v = .bool (decide (cls x p)) ∧ K0 w w' := by
  refine enter Tryd.func42 rfl Tryd.ntmps42 rfl fun Q hret hend E hE => ?_
  have g1 : E 0 = (Vi x) := hE 0
  have g2 : E 1 = (Vi p) := hE 1
  clear hE
  refine seq fun K3 hK3 => ?_
  refine reg ?_
  refine s_y (y_assign (v := Vf) rfl) rfl ?_
  refine s_nil (hK3 _ _ (genC [(0, (Vi x)), (1, (Vi p))] ⟨g1, g2, trivial⟩ ?_))
  clear hK3; rintro E ⟨g4, g5, -⟩
  refine seq fun K6 hK6 => ?_
  refine reg ?_
  refine s_y (y_move (v := (Vi x)) g4) rfl ?_
  refine s_e (e_call ca79 (args := [(Vi x)]) rfl (port_spec x _)) rfl ?_
  rintro _ w7 ⟨rfl, hk8⟩
  have ka9 : Kp (fun _ => False) w w7 := (Kp.then0 (Kp.refl _ _) hk8)
  refine s_y (y_move (v := (.bool (decide (isPort x)))) rfl) rfl ?_
  by_cases c10 : isPort x
  · refine s_gy (.yes rfl (congrArg Value.bool (decide_eq_true c10))) (y_move (v := (Vi p)) g5) rfl ?_
    refine s_ge (.yes rfl (congrArg Value.bool (decide_eq_true c10))) (e_call ca79 (args := [(Vi p)]) rfl (port_spec p _)) rfl ?_
    rintro _ w11 ⟨rfl, hk12⟩
    have ka13 := (Kp.then0 ka9 hk12)
    refine s_y (y_pick_t (congrArg Value.bool (decide_eq_true c10)) (v := (.bool (decide (isPort p)))) rfl) rfl ?_
    refine s_y (y_move (v := (.bool (decide (isPort p)))) rfl) rfl ?_
    by_cases c14 : isPort p
    · refine s_gy (.yes rfl (congrArg Value.bool (decide_eq_true c14))) (y_move (v := (Vi x)) g4) rfl ?_
      refine s_gy (.yes rfl (congrArg Value.bool (decide_eq_true c14))) (y_lss rfl rfl) rfl ?_
      refine s_gy (.yes rfl (congrArg Value.bool (decide_eq_true c14))) (y_move (v := (Vi p)) g5) rfl ?_
      refine s_gy (.yes rfl (congrArg Value.bool (decide_eq_true c14))) (y_lss rfl rfl) rfl ?_
      refine s_gy (.yes rfl (congrArg Value.bool (decide_eq_true c14))) (y_beql Tryd.underlying4 rfl rfl) rfl ?_
      refine s_y (y_pick_t (congrArg Value.bool (decide_eq_true c14)) (v := (.bool ((decide ((x : Int) < 1024)) == (decide ((p : Int) < 1024))))) rfl) rfl ?_
      refine s_y (y_move (v := (.bool ((decide ((x : Int) < 1024)) == (decide ((p : Int) < 1024))))) rfl) rfl ?_
      refine (Bool.eq_false_or_eq_true ((decide ((x : Int) < 1024)) == (decide ((p : Int) < 1024)))).elim (fun c15 => ?_) (fun c15 => ?_)
      · refine s_gy (.yes rfl (congrArg Value.bool c15)) (y_move (v := (Vi x)) g4) rfl ?_
        refine s_gy (.yes rfl (congrArg Value.bool c15)) (y_remw rfl rfl (by decide)) rfl ?_
        refine s_gy (.yes rfl (congrArg Value.bool c15)) (y_move (v := (Vi p)) g5) rfl ?_
        refine s_gy (.yes rfl (congrArg Value.bool c15)) (y_remw rfl rfl (by decide)) rfl ?_
        refine s_gy (.yes rfl (congrArg Value.bool c15)) (y_eql rfl rfl) rfl ?_
        refine s_y (y_pick_t (congrArg Value.bool c15) (v := (.bool (decide (((x : Int).tmod 2 : Int) = (p : Int).tmod 2)))) rfl) rfl ?_
        refine s_y (y_assign (v := (.bool (decide (((x : Int).tmod 2 : Int) = (p : Int).tmod 2)))) rfl) rfl ?_
        refine s_nil (hK6 _ _ (genC [(4, (.bool (decide (((x : Int).tmod 2 : Int) = (p : Int).tmod 2))))] ⟨rfl, trivial⟩ ?_))
        clear hK6; rintro E ⟨g16, -⟩
        refine ret (hret _ _ [(.bool (decide (((x : Int).tmod 2 : Int) = (p : Int).tmod 2)))] ⟨g16, trivial⟩ ?_)
        refine ⟨congrArg Value.bool ?_, ka13⟩
        simp [cls, c10, c14, c15]
      · refine s_no (.no rfl (c := false) (congrArg Value.bool c15) rfl) rfl ?_
        refine s_no (.no rfl (c := false) (congrArg Value.bool c15) rfl) rfl ?_
        refine s_no (.no rfl (c := false) (congrArg Value.bool c15) rfl) rfl ?_
        refine s_no (.no rfl (c := false) (congrArg Value.bool c15) rfl) rfl ?_
        refine s_no (.no rfl (c := false) (congrArg Value.bool c15) rfl) rfl ?_
        refine s_y (y_pick_f (congrArg Value.bool c15) (v := Vf) rfl) rfl ?_
        refine s_y (y_assign (v := Vf) rfl) rfl ?_
        refine s_nil (hK6 _ _ (genC [(4, Vf)] ⟨rfl, trivial⟩ ?_))
        clear hK6; rintro E ⟨g17, -⟩
        refine ret (hret _ _ [Vf] ⟨g17, trivial⟩ ?_)
        refine ⟨congrArg Value.bool ?_, ka13⟩
        simp [cls, c10, c14, c15]
    · refine s_no (.no rfl (c := false) (congrArg Value.bool (decide_eq_false c14)) rfl) rfl ?_
      refine s_no (.no rfl (c := false) (congrArg Value.bool (decide_eq_false c14)) rfl) rfl ?_
      refine s_no (.no rfl (c := false) (congrArg Value.bool (decide_eq_false c14)) rfl) rfl ?_
      refine s_no (.no rfl (c := false) (congrArg Value.bool (decide_eq_false c14)) rfl) rfl ?_
      refine s_no (.no rfl (c := false) (congrArg Value.bool (decide_eq_false c14)) rfl) rfl ?_
      refine s_y (y_pick_f (congrArg Value.bool (decide_eq_false c14)) (v := Vf) rfl) rfl ?_
      refine s_y (y_move (v := Vf) rfl) rfl ?_
      refine s_no (.no rfl (c := false) rfl rfl) rfl ?_
      refine s_no (.no rfl (c := false) rfl rfl) rfl ?_
      refine s_no (.no rfl (c := false) rfl rfl) rfl ?_
      refine s_no (.no rfl (c := false) rfl rfl) rfl ?_
      refine s_no (.no rfl (c := false) rfl rfl) rfl ?_
      refine s_y (y_pick_f rfl (v := Vf) rfl) rfl ?_
      refine s_y (y_assign (v := Vf) rfl) rfl ?_
      refine s_nil (hK6 _ _ (genC [(4, Vf)] ⟨rfl, trivial⟩ ?_))
      clear hK6; rintro E ⟨g18, -⟩
      refine ret (hret _ _ [Vf] ⟨g18, trivial⟩ ?_)
      refine ⟨congrArg Value.bool ?_, ka13⟩
      simp [cls, c10, c14]
  · refine s_no (.no rfl (c := false) (congrArg Value.bool (decide_eq_false c10)) rfl) rfl ?_
    refine s_no (.no rfl (c := false) (congrArg Value.bool (decide_eq_false c10)) rfl) rfl ?_
    refine s_y (y_pick_f (congrArg Value.bool (decide_eq_false c10)) (v := Vf) rfl) rfl ?_
    refine s_y (y_move (v := Vf) rfl) rfl ?_
    refine s_no (.no rfl (c := false) rfl rfl) rfl ?_
    refine s_no (.no rfl (c := false) rfl rfl) rfl ?_
    refine s_no (.no rfl (c := false) rfl rfl) rfl ?_
    refine s_no (.no rfl (c := false) rfl rfl) rfl ?_
    refine s_no (.no rfl (c := false) rfl rfl) rfl ?_
    refine s_y (y_pick_f rfl (v := Vf) rfl) rfl ?_
    refine s_y (y_move (v := Vf) rfl) rfl ?_
    refine s_no (.no rfl (c := false) rfl rfl) rfl ?_
    refine s_no (.no rfl (c := false) rfl rfl) rfl ?_
    refine s_no (.no rfl (c := false) rfl rfl) rfl ?_
    refine s_no (.no rfl (c := false) rfl rfl) rfl ?_
    refine s_no (.no rfl (c := false) rfl rfl) rfl ?_
    refine s_y (y_pick_f rfl (v := Vf) rfl) rfl ?_
    refine s_y (y_assign (v := Vf) rfl) rfl ?_
    refine s_nil (hK6 _ _ (genC [(4, Vf)] ⟨rfl, trivial⟩ ?_))
    clear hK6; rintro E ⟨g19, -⟩
    refine ret (hret _ _ [Vf] ⟨g19, trivial⟩ ?_)
    refine ⟨congrArg Value.bool ?_, ka9⟩
    simp [cls, c10]

theorem index4_spec {b o n c : Nat} {l : List V4} {w : World} (x : V4) (hn : n = l.length) (hmax : l.length ≤ 9223372036854775807) (hl : Elts V4.cs 4 w b o l) : Rets Tryd.prog 104 #[(.slice (some ⟨b, o, none⟩) n c), (v4 x)] w fun v w' => (∃ z : Int, v = .int .i64 z ∧ ((z = -1 ∧ x ∉ l) ∨ ∃ i : Nat, z = i ∧ l[i]? = some x ∧ ∀ j, j < i → l[j]? ≠ some x)) ∧ K0 w w' := by
  refine enter Tryd.func104 rfl Tryd.ntmps104 rfl fun Q hret hend E hE => ?_
  have g1 : E 0 = (.slice (some ⟨b, o, none⟩) n c) := hE 0
  have g2 : E 1 = (v4 x) := hE 1
  clear hE
  refine seq fun K3 hK3 => ?_
  refine reg ?_
  refine s_e (e_box (v := (v4 x)) g2) rfl ?_
  rintro _ w4 ⟨rfl, hb5, hk6⟩
  have ka7 : Kp (fun _ => False) w w4 := (Kp.then0 (Kp.refl _ _) hk6)
  refine s_y (y_assign (v := (Vi 0)) rfl) rfl ?_
  refine s_nil (hK3 _ _ (genC [(0, (.slice (some ⟨b, o, none⟩) n c)), (3, (Vp w.heap.size 0))] ⟨g1, rfl, trivial⟩ ?_))
  clear hK3; rintro E ⟨g8, g9, -⟩
  refine seq fun K10 hK10 => ?_
  refine seq fun K11 hK11 => ?_
  refine reg ?_
  refine s_y (y_move (v := (.slice (some ⟨b, o, none⟩) n c)) g8) rfl ?_
  refine s_y (y_lenS so28 rfl) rfl ?_
  refine s_y (y_move (v := (Vi 0)) rfl) rfl ?_
  refine s_nil (hK11 _ _ (genC [(0, (.slice (some ⟨b, o, none⟩) n c)), (3, (Vp w.heap.size 0)), (7, (Vi (((n : Nat) : Int)))), (8, (Vi 0))] ⟨g8, g9, rfl, rfl, trivial⟩ ?_))
  clear hK11; rintro E ⟨g12, g13, g14, g15, -⟩
  refine block ?_
  refine loopG (X := Nat) (fun q_ E w_ => Has E [(0, (.slice (some ⟨b, o, none⟩) n c)), (3, (Vp w.heap.size 0)), (7, (Vi (((n : Nat) : Int)))), (8, (Vi (((q_ : Nat) : Int))))] ∧ Kp (fun _ => False) w4 w_ ∧ (q_ ≤ l.length) ∧ (∀ j, j < q_ → l[j]? ≠ some x)) (fun q_ => l.length - q_) 0 ⟨⟨g12, g13, g14, g15, trivial⟩, Kp.refl _ _, (show 0 ≤ l.length from (by omega)), (show ∀ j, j < 0 → l[j]? ≠ some x from (by intro j hj; omega))⟩ ?_
  rintro i E w20 ⟨⟨g16, g17, g18, g19, -⟩, hk21, hi23, hi24⟩ K22 hK22
  replace hi23 : i ≤ l.length := hi23
  replace hi24 : ∀ j, j < i → l[j]? ≠ some x := hi24
  have ka25 := (Kp.then0 ka7 hk21)
  refine seq fun K26 hK26 => ?_
  refine reg ?_
  refine s_y (y_lss g19 g18) rfl ?_
  refine s_nil (hK26 _ _ (genC [(0, (.slice (some ⟨b, o, none⟩) n c)), (3, (Vp w.heap.size 0)), (7, (Vi (((n : Nat) : Int)))), (8, (Vi (((i : Nat) : Int)))), (9, (.bool (decide ((((i : Nat) : Int) : Int) < ((n : Nat) : Int)))))] ⟨g16, g17, g18, g19, rfl, trivial⟩ ?_))
  clear hK26; rintro E ⟨g27, g28, g29, g30, g31, -⟩
  refine seq fun K32 hK32 => ?_
  refine cond_d g31 (fun c33 => ?_) (fun c33 => ?_)
  · refine skip (hK32 _ _ (genC [(0, (.slice (some ⟨b, o, none⟩) n c)), (3, (Vp w.heap.size 0)), (7, (Vi (((n : Nat) : Int)))), (8, (Vi (((i : Nat) : Int))))] ⟨g27, g28, g29, g30, trivial⟩ ?_))
    clear hK32; rintro E ⟨g34, g35, g36, g37, -⟩
    refine seq fun K38 hK38 => ?_
    refine block ?_
    refine seq fun K39 hK39 => ?_
    refine reg ?_
    refine s_y (y_move (v := (Vi (((i : Nat) : Int)))) g37) rfl ?_
    refine s_y (y_assign (v := (Vi (((i : Nat) : Int)))) rfl) rfl ?_
    refine s_nil (hK39 _ _ (genC [(0, (.slice (some ⟨b, o, none⟩) n c)), (3, (Vp w.heap.size 0)), (5, (Vi (((i : Nat) : Int)))), (7, (Vi (((n : Nat) : Int)))), (8, (Vi (((i : Nat) : Int))))] ⟨g34, g35, rfl, g36, g37, trivial⟩ ?_))
    clear hK39; rintro E ⟨g40, g41, g42, g43, g44, -⟩
    refine seq fun K45 hK45 => ?_
    refine regD (fun _ => False) (.take 0 (.take 1 (.take 2 (.take 3 (.take 4 (.take 5 .done)))))) mixed (by kernel_rfl) fun w46 hh47 hk48 => ?_
    have ka49 := (Kp.then0 ka25 hk48)
    refine o_y rfl (y_load (v := (v4 x)) g41 (rd_agg (vs := [(u8 x.a), (u8 x.b), (u8 x.c), (u8 x.d)]) ag27 (On.kp (hk48.get0 (hk21.get0 hb5)) id) (by kernel_rfl) rfl)) ?_
    refine o_y rfl (y_move (v := (.slice (some ⟨b, o, none⟩) n c)) g40) ?_
    refine o_y rfl (y_move (v := (Vi (((i : Nat) : Int)))) g42) ?_
    refine o_y rfl (y_idx so28 sz27 rfl (i := i) rfl (by omega)) ?_
    obtain ⟨x50, hx51⟩ : ∃ x, l[i]? = some x := ⟨_, List.getElem?_eq_getElem (by omega)⟩
    refine o_y rfl (y_load (v := (.agg #[u8 x50.a, u8 x50.b, u8 x50.c, u8 x50.d])) rfl (rd_el ag27 (EltsOn.kp (((hl.kp hk6 id).kp hk21 id).kp hk48 id) id) hx51 (vs := [(u8 x50.a), (u8 x50.b), (u8 x50.c), (u8 x50.d)]) rfl)) ?_
    refine o_y rfl (y_eqT (eq27 9998) eg27 (x := x) (y := x50) rfl rfl ⟨_, rfl⟩ ⟨_, rfl⟩) ?_
    refine o_done (hK45 _ _ (genC [(0, (.slice (some ⟨b, o, none⟩) n c)), (3, (Vp w.heap.size 0)), (5, (Vi (((i : Nat) : Int)))), (7, (Vi (((n : Nat) : Int)))), (8, (Vi (((i : Nat) : Int)))), (16, (.bool (decide (x = x50))))] ⟨g40, g41, g42, g43, g44, rfl, trivial⟩ ?_))
    clear hK45; rintro E ⟨g52, g53, g54, g55, g56, g57, -⟩
    refine cond_d g57 (fun c58 => ?_) (fun c58 => ?_)
    · refine seq fun K59 hK59 => ?_
      refine reg ?_
      refine s_y (y_move (v := (Vi (((i : Nat) : Int)))) g54) rfl ?_
      refine s_y (y_assign (v := (Vi (((i : Nat) : Int)))) rfl) rfl ?_
      refine s_nil (hK59 _ _ (genC [(4, (Vi (((i : Nat) : Int))))] ⟨rfl, trivial⟩ ?_))
      clear hK59; rintro E ⟨g60, -⟩
      refine ret (hret _ _ [(Vi (((i : Nat) : Int)))] ⟨g60, trivial⟩ ?_)
      exact ⟨⟨_, rfl, .inr ⟨i, rfl, by rw [hx51, c58], hi24⟩⟩, ka49⟩
    · refine skip (hK38 _ _ (genC [(0, (.slice (some ⟨b, o, none⟩) n c)), (3, (Vp w.heap.size 0)), (7, (Vi (((n : Nat) : Int)))), (8, (Vi (((i : Nat) : Int))))] ⟨g52, g53, g55, g56, trivial⟩ ?_))
      clear hK38; rintro E ⟨g61, g62, g63, g64, -⟩
      refine reg ?_
      refine s_y (y_add g64 rfl (c := ((i : Nat) : Int) + 1) (by omega) rfl) rfl ?_
      refine s_y (y_move (v := (Vi (((i : Nat) : Int) + 1))) rfl) rfl ?_
      have kc65 : Kp (fun _ => False) w4 w20 := (Kp.then0 (Kp.refl _ _) hk21)
      have kc66 : Kp (fun _ => False) w4 w46 := (Kp.then0 kc65 hk48)
      exact s_nil (hK22 (i + 1) _ _ ⟨⟨g61, g62, g63, rfl, trivial⟩, kc66, (show (i + 1) ≤ l.length from (by omega)), (show ∀ j, j < (i + 1) → l[j]? ≠ some x from (by
          intro j hj
          rcases Nat.lt_or_ge j i with h | h
          · exact hi24 j h
          have e2 : j = i := by omega
          rw [e2, hx51]; intro e; injection e with e; exact c58 e.symm))⟩ (by show l.length - (i + 1) < l.length - i; omega))
  · refine exit (hK10 _ _ (genC [] trivial ?_))
    clear hK10; rintro E -
    refine seq fun K67 hK67 => ?_
    refine reg ?_
    refine s_y (y_assign (v := (Vi (-1))) rfl) rfl ?_
    refine s_nil (hK67 _ _ (genC [(4, (Vi (-1)))] ⟨rfl, trivial⟩ ?_))
    clear hK67; rintro E ⟨g68, -⟩
    refine ret (hret _ _ [(Vi (-1))] ⟨g68, trivial⟩ ?_)
    refine ⟨⟨_, rfl, .inl ⟨rfl, fun hx => ?_⟩⟩, ka25⟩
    obtain ⟨j, hj⟩ := List.mem_iff_getElem?.1 hx
    have := (List.getElem?_eq_some_iff.1 hj).1
    exact hi24 j (by omega) hj

theorem contains4_spec {b o n c : Nat} {l : List V4} {w : World} (x : V4) (hn : n = l.length) (hmax : l.length ≤ 9223372036854775807) (hl : Elts V4.cs 4 w b o l) : Rets Tryd.prog 81 #[(.slice (some ⟨b, o, none⟩) n c), (v4 x)] w fun v w' => v = .bool (decide (x ∈ l)) ∧ K0 w w' := by
  refine enter Tryd.func81 rfl Tryd.ntmps81 rfl fun Q hret hend E hE => ?_
  have g1 : E 0 = (.slice (some ⟨b, o, none⟩) n c) := hE 0
  have g2 : E 1 = (v4 x) := hE 1
  clear hE
  refine seq fun K3 hK3 => ?_
  refine reg ?_
  refine s_e (e_box (v := (v4 x)) g2) rfl ?_
  rintro _ w4 ⟨rfl, hb5, hk6⟩
  have ka7 : Kp (fun _ => False) w w4 := (Kp.then0 (Kp.refl _ _) hk6)
  refine s_y (y_assign (v := Vf) rfl) rfl ?_
  refine s_nil (hK3 _ _ (genC [(0, (.slice (some ⟨b, o, none⟩) n c)), (3, (Vp w.heap.size 0))] ⟨g1, rfl, trivial⟩ ?_))
  clear hK3; rintro E ⟨g8, g9, -⟩
  refine seq fun K10 hK10 => ?_
  refine reg ?_
  refine s_y (y_move (v := (.slice (some ⟨b, o, none⟩) n c)) g8) rfl ?_
  refine s_y (y_load (v := (v4 x)) g9 (rd_agg (vs := [(u8 x.a), (u8 x.b), (u8 x.c), (u8 x.d)]) ag27 (On.now hb5) (by kernel_rfl) rfl)) rfl ?_
  have hf11 := (hl.kp hk6 id)
  refine s_e (e_call ca104 (args := [(.slice (some ⟨b, o, none⟩) n c), (v4 x)]) rfl (index4_spec x (by exact hn) (by omega) hf11)) rfl ?_
  rintro _ w12 ⟨⟨z14, rfl, hz15⟩, hk13⟩
  have ka16 := (Kp.then0 ka7 hk13)
  refine s_y (y_geq rfl rfl) rfl ?_
  refine s_y (y_assign (v := (.bool (decide ((0 : Int) ≤ z14)))) rfl) rfl ?_
  refine s_nil (hK10 _ _ (genC [(4, (.bool (decide ((0 : Int) ≤ z14))))] ⟨rfl, trivial⟩ ?_))
  clear hK10; rintro E ⟨g17, -⟩
  refine ret (hret _ _ [(.bool (decide ((0 : Int) ≤ z14)))] ⟨g17, trivial⟩ ?_)
  refine ⟨congrArg Value.bool ?_, ka16⟩
  rcases hz15 with ⟨h1, h2⟩ | ⟨i, h1, h2, _⟩
  · rw [decide_eq_false h2, decide_eq_false (by omega)]
  · rw [decide_eq_true (List.mem_of_getElem? h2), decide_eq_true (by omega)]

theorem may_spec {g : PoolG} {held : List (T4 × Bool)} {w : World} (h : PoolIs g held w) (ok : PoolOk g) (t : T4) : Rets Tryd.prog 86 #[(.pointer (some ⟨g.pb, 0, none⟩)), (t4 t)] w fun v w' => v = .int .i64 (if owns g.l t then 0 else 1) ∧ K0 w w' := by
  refine enter Tryd.func86 rfl Tryd.ntmps86 rfl fun Q hret hend E hE => ?_
  have g1 : E 0 = (Vp g.pb 0) := hE 0
  have g2 : E 1 = (t4 t) := hE 1
  clear hE
  have hb0 := h.blk; have hl0 := h.row; have hm0 := h.map; have hn1 : g.pb ≠ g.mb := blk_ne_map h.blk h.map; have hn2 : g.lb ≠ g.mb := h.row.ne_map h.map
  have hlen := ok.len; have hlo := ok.lo; have hhi := ok.hi; have hle := ok.le; have hcap := ok.cap
  refine seq fun K3 hK3 => ?_
  refine reg ?_
  refine s_e (e_box (v := (t4 t)) g2) rfl ?_
  rintro _ w4 ⟨rfl, hb5, hk6⟩
  have ka7 : Kp (fun _ => False) w w4 := (Kp.then0 (Kp.refl _ _) hk6)
  refine s_y (y_assign (v := (Vi 0)) rfl) rfl ?_
  refine s_nil (hK3 _ _ (genC [(0, (Vp g.pb 0)), (3, (Vp w.heap.size 0))] ⟨g1, rfl, trivial⟩ ?_))
  clear hK3; rintro E ⟨g8, g9, -⟩
  refine seq fun K10 hK10 => ?_
  refine block ?_
  refine seq fun K11 hK11 => ?_
  refine reg ?_
  refine s_y (y_move (v := (Vp g.pb 0)) g8) rfl ?_
  refine s_y (y_peq Tryd.underlying92 rfl rfl) rfl ?_
  refine s_y (y_move (v := Vf) rfl) rfl ?_
  refine s_gy (.yes rfl rfl) (y_move (v := (Vp g.pb 0)) g8) rfl ?_
  refine s_gy (.yes rfl rfl) (y_nil rfl) rfl ?_
  refine s_gy (.yes rfl rfl) (y_fld fo146_3 rfl) rfl ?_
  have hb12 := (hk6.get0 hb0)
  refine s_gy (.yes rfl rfl) (y_load (v := (.map (some g.mb))) rfl (rd_sc sc144 (On.now hb12) rfl)) rfl ?_
  refine s_gy (.yes rfl rfl) (y_meq Tryd.underlying144 rfl rfl) rfl ?_
  refine s_y (y_pick_f rfl (v := Vf) rfl) rfl ?_
  refine s_y (y_assign (v := Vf) rfl) rfl ?_
  refine s_nil (hK11 _ _ (genC [(0, (Vp g.pb 0)), (3, (Vp w.heap.size 0)), (5, Vf)] ⟨g8, g9, rfl, trivial⟩ ?_))
  clear hK11; rintro E ⟨g13, g14, g15, -⟩
  refine cond_f g15 ?_
  refine seq fun K16 hK16 => ?_
  refine regD (fun _ => False) (.take 0 (.take 1 (.one 2 (.take 3 (.take 4 (.take 5 (.take 6 (.take 7 (.take 8 (.take 9 (.take 10 (.one 11 (.take 12 (.take 13 (.take 14 .done))))))))))))))) mixed (by kernel_rfl) fun w17 hh18 hk19 => ?_
  have ka20 := (Kp.then0 ka7 hk19)
  refine o_y rfl (y_fld fo34_1 g14) ?_
  refine o_y rfl (y_load (v := (Vi (t.port))) rfl (rd_sc sc3 (On.kp (hk19.get0 hb5) id) rfl)) ?_
  refine o_one ?_
  refine c_e rfl (e_call ca79 (args := [(Vi (t.port))]) rfl (port_spec t.port _)) ?_
  rintro _ w21 ⟨rfl, hk22⟩
  have ka23 := (Kp.then0 ka20 hk22)
  have ks24 : Kp (fun _ => False) w17 w21 := (Kp.then0 (Kp.refl _ _) hk22)
  refine ⟨ks24, ?_⟩
  refine o_y rfl (y_notd rfl) ?_
  refine o_y rfl (y_move (v := (.bool (decide (¬ (isPort t.port))))) rfl) ?_
  by_cases c25 : ¬ (isPort t.port)
  · refine o_no rfl (.no rfl (c := true) (congrArg Value.bool (decide_eq_true c25)) rfl) ?_
    refine o_no rfl (.no rfl (c := true) (congrArg Value.bool (decide_eq_true c25)) rfl) ?_
    refine o_no rfl (.no rfl (c := true) (congrArg Value.bool (decide_eq_true c25)) rfl) ?_
    refine o_no rfl (.no rfl (c := true) (congrArg Value.bool (decide_eq_true c25)) rfl) ?_
    refine o_no rfl (.no rfl (c := true) (congrArg Value.bool (decide_eq_true c25)) rfl) ?_
    refine o_no rfl (.no rfl (c := true) (congrArg Value.bool (decide_eq_true c25)) rfl) ?_
    refine o_one ?_
    refine c_no rfl (.no rfl (c := true) (congrArg Value.bool (decide_eq_true c25)) rfl) ks24 ?_
    refine o_no rfl (.no rfl (c := true) (congrArg Value.bool (decide_eq_true c25)) rfl) ?_
    refine o_y rfl (y_pick_t (congrArg Value.bool (decide_eq_true c25)) (v := Vt) rfl) ?_
    refine o_y rfl (y_assign (v := Vt) rfl) ?_
    refine o_done (hK16 _ _ (genC [(15, Vt)] ⟨rfl, trivial⟩ ?_))
    clear hK16; rintro E ⟨g26, -⟩
    refine cond_t g26 ?_
    refine seq fun K27 hK27 => ?_
    refine reg ?_
    refine s_y (y_assign (v := (Vi 1)) rfl) rfl ?_
    refine s_nil (hK27 _ _ (genC [(4, (Vi 1))] ⟨rfl, trivial⟩ ?_))
    clear hK27; rintro E ⟨g28, -⟩
    refine ret (hret _ _ [(Vi 1)] ⟨g28, trivial⟩ ?_)
    refine ⟨congrArg (Value.int .i64) ?_, ka23⟩
    grind [owns]
  · refine o_gy rfl (.yes rfl (congrArg Value.bool (decide_eq_false c25))) (y_move (v := (Vp g.pb 0)) g13) ?_
    refine o_gy rfl (.yes rfl (congrArg Value.bool (decide_eq_false c25))) (y_nil rfl) ?_
    refine o_gy rfl (.yes rfl (congrArg Value.bool (decide_eq_false c25))) (y_fld fo146_0 rfl) ?_
    refine o_gy rfl (.yes rfl (congrArg Value.bool (decide_eq_false c25))) (y_load (v := (.slice (some ⟨g.lb, 0, none⟩) g.l.length g.cap)) rfl (rd_sc sc28 (On.kp (hk19.get0 hb12) id) rfl)) ?_
    refine o_gy rfl (.yes rfl (congrArg Value.bool (decide_eq_false c25))) (y_fld fo34_0 g14) ?_
    refine o_gy rfl (.yes rfl (congrArg Value.bool (decide_eq_false c25))) (y_load (v := (v4 t.addr)) rfl (rd_agg (vs := [(u8 t.addr.a), (u8 t.addr.b), (u8 t.addr.c), (u8 t.addr.d)]) ag27 (On.kp (hk19.get0 hb5) id) (by kernel_rfl) rfl)) ?_
    refine o_one ?_
    have hf29 := (((hl0.kp hk6 id).kp hk19 id).kp hk22 id)
    refine c_ge rfl (.yes rfl (congrArg Value.bool (decide_eq_false c25))) (e_call ca81 (args := [(.slice (some ⟨g.lb, 0, none⟩) g.l.length g.cap), (v4 t.addr)]) rfl (contains4_spec t.addr (by rfl) (by omega) hf29)) ?_
    rintro _ w30 ⟨rfl, hk31⟩
    have ka32 := (Kp.then0 ka23 hk31)
    have ks33 := (Kp.then0 ks24 hk31)
    refine ⟨ks33, ?_⟩
    refine o_gy rfl (.yes rfl (congrArg Value.bool (decide_eq_false c25))) (y_notd rfl) ?_
    refine o_y rfl (y_pick_f (congrArg Value.bool (decide_eq_false c25)) (v := (.bool (decide (¬ (t.addr ∈ g.l))))) rfl) ?_
    refine o_y rfl (y_assign (v := (.bool (decide (¬ (t.addr ∈ g.l))))) rfl) ?_
    refine o_done (hK16 _ _ (genC [(15, (.bool (decide (¬ (t.addr ∈ g.l)))))] ⟨rfl, trivial⟩ ?_))
    clear hK16; rintro E ⟨g34, -⟩
    refine cond_d g34 (fun c35 => ?_) (fun c35 => ?_)
    · refine seq fun K36 hK36 => ?_
      refine reg ?_
      refine s_y (y_assign (v := (Vi 1)) rfl) rfl ?_
      refine s_nil (hK36 _ _ (genC [(4, (Vi 1))] ⟨rfl, trivial⟩ ?_))
      clear hK36; rintro E ⟨g37, -⟩
      refine ret (hret _ _ [(Vi 1)] ⟨g37, trivial⟩ ?_)
      refine ⟨congrArg (Value.int .i64) ?_, ka32⟩
      grind [owns]
    · refine skip (hK10 _ _ (genC [] trivial ?_))
      clear hK10; rintro E -
      refine seq fun K38 hK38 => ?_
      refine reg ?_
      refine s_y (y_assign (v := (Vi 0)) rfl) rfl ?_
      refine s_nil (hK38 _ _ (genC [(4, (Vi 0))] ⟨rfl, trivial⟩ ?_))
      clear hK38; rintro E ⟨g39, -⟩
      refine ret (hret _ _ [(Vi 0)] ⟨g39, trivial⟩ ?_)
      refine ⟨congrArg (Value.int .i64) ?_, ka32⟩
      grind [owns]

theorem has_spec {g : PoolG} {held : List (T4 × Bool)} {w : World} (h : PoolIs g held w) (ok : PoolOk g) (a : V4) : Rets Tryd.prog 54 #[(.pointer (some ⟨g.pb, 0, none⟩)), (v4 a)] w fun v w' => v = .bool (decide (a ∈ g.l)) ∧ K0 w w' := by
  refine enter Tryd.func54 rfl Tryd.ntmps54 rfl fun Q hret hend E hE => ?_
  have g1 : E 0 = (Vp g.pb 0) := hE 0
  have g2 : E 1 = (v4 a) := hE 1
  clear hE
  have hb0 := h.blk; have hl0 := h.row; have hm0 := h.map; have hn1 : g.pb ≠ g.mb := blk_ne_map h.blk h.map; have hn2 : g.lb ≠ g.mb := h.row.ne_map h.map
  have hlen := ok.len; have hlo := ok.lo; have hhi := ok.hi; have hle := ok.le; have hcap := ok.cap
  refine seq fun K3 hK3 => ?_
  refine reg ?_
  refine s_e (e_box (v := (v4 a)) g2) rfl ?_
  rintro _ w4 ⟨rfl, hb5, hk6⟩
  have ka7 : Kp (fun _ => False) w w4 := (Kp.then0 (Kp.refl _ _) hk6)
  refine s_y (y_assign (v := Vf) rfl) rfl ?_
  refine s_nil (hK3 _ _ (genC [(0, (Vp g.pb 0)), (3, (Vp w.heap.size 0))] ⟨g1, rfl, trivial⟩ ?_))
  clear hK3; rintro E ⟨g8, g9, -⟩
  refine seq fun K10 hK10 => ?_
  refine reg ?_
  refine s_y (y_move (v := (Vp g.pb 0)) g8) rfl ?_
  refine s_y (y_load (v := (v4 a)) g9 (rd_agg (vs := [(u8 a.a), (u8 a.b), (u8 a.c), (u8 a.d)]) ag27 (On.now hb5) (by kernel_rfl) rfl)) rfl ?_
  refine s_y (y_build (vs := [(0, (v4 a))]) (v := (.agg #[u8 a.a, u8 a.b, u8 a.c, u8 a.d, .int .i64 0])) rfl (fun _ => by kernel_rfl)) rfl ?_
  have hb11 := (hk6.get0 hb0)
  have hf12 := (hl0.kp hk6 id)
  have hf13 := (hm0.kp hk6 id)
  refine s_e (e_call ca86 (args := [(Vp g.pb 0), (.agg #[u8 a.a, u8 a.b, u8 a.c, u8 a.d, .int .i64 0])]) rfl (may_spec ⟨hb11, hf12, hf13⟩ ok (⟨a, 0⟩ : T4))) rfl ?_
  rintro _ w15 ⟨rfl, hk16⟩
  have ka17 := (Kp.then0 ka7 hk16)
  refine s_y (y_eql rfl rfl) rfl ?_
  refine s_y (y_assign (v := (.bool (decide (((if owns g.l (⟨a, 0⟩ : T4) then 0 else 1) : Int) = 0)))) rfl) rfl ?_
  refine s_nil (hK10 _ _ (genC [(4, (.bool (decide (((if owns g.l (⟨a, 0⟩ : T4) then 0 else 1) : Int) = 0))))] ⟨rfl, trivial⟩ ?_))
  clear hK10; rintro E ⟨g18, -⟩
  refine ret (hret _ _ [(.bool (decide (((if owns g.l (⟨a, 0⟩ : T4) then 0 else 1) : Int) = 0)))] ⟨g18, trivial⟩ ?_)
  refine ⟨congrArg Value.bool ?_, ka17⟩
  have : isPort 0 := by decide
  by_cases h : a ∈ g.l <;> simp [owns, this, h]

def pRes (l : List V4) (held : List (T4 × Bool)) (t : T4) : Int × List (T4 × Bool) :=
  if owns l t then match aget held t with | some _ => (5, held) | none => (0, held ++ [(t, true)]) else (1, held)
def pRel (l : List V4) (held : List (T4 × Bool)) (t : T4) : Int × List (T4 × Bool) :=
  if owns l t then (if aget held t = some true then (0, adel held t) else (4, held)) else (1, held)
def pGive (l : List V4) (held : List (T4 × Bool)) (t : T4) : Int × List (T4 × Bool) :=
  if owns l t then match aget held t with | some true => (11, held) | some false => (0, adel held t) | none => (4, held) else (1, held)
theorem is_spec {g : PoolG} {held : List (T4 × Bool)} {w : World} (h : PoolIs g held w) (ok : PoolOk g) (t : T4) (ht : -9223372036854775808 ≤ t.port ∧ t.port ≤ 9223372036854775807)  : Rets Tryd.prog 55 #[(.pointer (some ⟨g.pb, 0, none⟩)), (t4 t)] w fun v w' => v = .tuple #[.bool (decide (owns g.l t ∧ aget held t = some false)), .bool (decide (owns g.l t ∧ aget held t = some true))] ∧ K0 w w' := by
  refine enter Tryd.func55 rfl Tryd.ntmps55 rfl fun Q hret hend E hE => ?_
  have g1 : E 0 = (Vp g.pb 0) := hE 0
  have g2 : E 1 = (t4 t) := hE 1
  clear hE
  have hb0 := h.blk; have hl0 := h.row; have hm0 := h.map; have hn1 : g.pb ≠ g.mb := blk_ne_map h.blk h.map; have hn2 : g.lb ≠ g.mb := h.row.ne_map h.map
  have hlen := ok.len; have hlo := ok.lo; have hhi := ok.hi; have hle := ok.le; have hcap := ok.cap
  refine seq fun K3 hK3 => ?_
  refine reg ?_
  refine s_e (e_box (v := (t4 t)) g2) rfl ?_
  rintro _ w4 ⟨rfl, hb5, hk6⟩
  have ka7 : Kp (fun _ => False) w w4 := (Kp.then0 (Kp.refl _ _) hk6)
  refine s_y (y_assign (v := Vf) rfl) rfl ?_
  refine s_y (y_assign (v := Vf) rfl) rfl ?_
  refine s_nil (hK3 _ _ (genC [(0, (Vp g.pb 0)), (3, (Vp w.heap.size 0))] ⟨g1, rfl, trivial⟩ ?_))
  clear hK3; rintro E ⟨g8, g9, -⟩
  refine seq fun K10 hK10 => ?_
  refine seq fun K11 hK11 => ?_
  refine reg ?_
  refine s_y (y_move (v := (Vp g.pb 0)) g8) rfl ?_
  refine s_y (y_load (v := (t4 t)) g9 (rd_agg (vs := t.cs) ag34 (On.now hb5) (by kernel_rfl) rfl)) rfl ?_
  have hb12 := (hk6.get0 hb0)
  have hf13 := (hl0.kp hk6 id)
  have hf14 := (hm0.kp hk6 id)
  refine s_e (e_call ca86 (args := [(Vp g.pb 0), (t4 t)]) rfl (may_spec ⟨hb12, hf13, hf14⟩ ok t)) rfl ?_
  rintro _ w16 ⟨rfl, hk17⟩
  have ka18 := (Kp.then0 ka7 hk17)
  refine s_y (y_neq rfl rfl) rfl ?_
  refine s_nil (hK11 _ _ (genC [(0, (Vp g.pb 0)), (3, (Vp w.heap.size 0)), (10, (.bool (decide (((if owns g.l t then 0 else 1) : Int) ≠ 0))))] ⟨g8, g9, rfl, trivial⟩ ?_))
  clear hK11; rintro E ⟨g19, g20, g21, -⟩
  refine cond_d g21 (fun c22 => ?_) (fun c22 => ?_)
  · refine seq fun K23 hK23 => ?_
    refine reg ?_
    refine s_y (y_assign (v := Vf) rfl) rfl ?_
    refine s_y (y_assign (v := Vf) rfl) rfl ?_
    refine s_nil (hK23 _ _ (genC [(4, Vf), (5, Vf)] ⟨rfl, rfl, trivial⟩ ?_))
    clear hK23; rintro E ⟨g24, g25, -⟩
    refine ret (hret _ _ [Vf, Vf] ⟨g24, g25, trivial⟩ ?_)
    have e1 : decide (owns g.l t ∧ aget held t = some false) = false := by grind
    have e2 : decide (owns g.l t ∧ aget held t = some true) = false := by grind
    exact ⟨by rw [e1, e2]; rfl, ka18⟩
  · refine skip (hK10 _ _ (genC [(0, (Vp g.pb 0)), (3, (Vp w.heap.size 0))] ⟨g19, g20, trivial⟩ ?_))
    clear hK10; rintro E ⟨g26, g27, -⟩
    refine seq fun K28 hK28 => ?_
    refine regD (fun _ => False) (.take 0 (.take 1 (.take 2 (.take 3 (.take 4 (.take 5 (.take 6 (.take 7 (.take 8 (.take 9 (.take 10 .done))))))))))) mixed (by kernel_rfl) fun w29 hh30 hk31 => ?_
    have ka32 := (Kp.then0 ka18 hk31)
    refine o_y rfl (y_move (v := (Vp g.pb 0)) g26) ?_
    refine o_y rfl (y_nil rfl) ?_
    refine o_y rfl (y_fld fo146_3 rfl) ?_
    refine o_y rfl (y_load (v := (.map (some g.mb))) rfl (rd_sc sc144 (On.kp (hk31.get0 (hk17.get0 hb12)) id) rfl)) ?_
    refine o_y rfl (y_load (v := (t4 t)) g27 (rd_agg (vs := t.cs) ag34 (On.kp (hk31.get0 (hk17.get0 hb5)) id) (by kernel_rfl) rfl)) ?_
    cases c33 : aget held t with
    | none =>
      refine o_y rfl (y_lookup2_none kf34 Tryd.underlying144 ze4 (MapOn.kp ((hf14.kp hk17 id).kp hk31 id) id) rfl rfl (show inI t.port from inI_of (by omega) (by omega)) c33) ?_
      refine o_y rfl (y_move (v := (.tuple #[Vf, Vf])) rfl) ?_
      refine o_y rfl (y_ext rfl (v := Vf) rfl) ?_
      refine o_y rfl (y_ext rfl (v := Vf) rfl) ?_
      refine o_y rfl (y_assign (v := Vf) rfl) ?_
      refine o_y rfl (y_assign (v := Vf) rfl) ?_
      refine o_done (hK28 _ _ (genC [(5, Vf), (6, Vf)] ⟨rfl, rfl, trivial⟩ ?_))
      clear hK28; rintro E ⟨g35, g36, -⟩
      refine seq fun K37 hK37 => ?_
      refine reg ?_
      refine s_y (y_move (v := Vf) g36) rfl ?_
      refine s_y (y_move (v := Vf) rfl) rfl ?_
      refine s_no (.no rfl (c := false) rfl rfl) rfl ?_
      refine s_no (.no rfl (c := false) rfl rfl) rfl ?_
      refine s_y (y_pick_f rfl (v := Vf) rfl) rfl ?_
      refine s_y (y_move (v := Vf) g35) rfl ?_
      refine s_y (y_assign (v := Vf) rfl) rfl ?_
      refine s_y (y_assign (v := Vf) rfl) rfl ?_
      refine s_nil (hK37 _ _ (genC [(4, Vf), (5, Vf)] ⟨rfl, rfl, trivial⟩ ?_))
      clear hK37; rintro E ⟨g38, g39, -⟩
      refine ret (hret _ _ [Vf, Vf] ⟨g38, g39, trivial⟩ ?_)
      have e1 : decide (owns g.l t ∧ aget held t = some false) = false := by grind
      have e2 : decide (owns g.l t ∧ aget held t = some true) = false := by grind
      exact ⟨by rw [e1, e2]; rfl, ka32⟩
    | some v34 =>
      refine o_y rfl (y_lookup2_some kf34 Tryd.underlying144 ze4 (MapOn.kp ((hf14.kp hk17 id).kp hk31 id) id) rfl rfl (show inI t.port from inI_of (by omega) (by omega)) c33) ?_
      refine o_y rfl (y_move (v := (.tuple #[(.bool (v34)), Vt])) rfl) ?_
      refine o_y rfl (y_ext rfl (v := (.bool (v34))) rfl) ?_
      refine o_y rfl (y_ext rfl (v := Vt) rfl) ?_
      refine o_y rfl (y_assign (v := (.bool (v34))) rfl) ?_
      refine o_y rfl (y_assign (v := Vt) rfl) ?_
      refine o_done (hK28 _ _ (genC [(5, (.bool (v34))), (6, Vt)] ⟨rfl, rfl, trivial⟩ ?_))
      clear hK28; rintro E ⟨g40, g41, -⟩
      refine seq fun K42 hK42 => ?_
      refine reg ?_
      refine s_y (y_move (v := Vt) g41) rfl ?_
      refine s_y (y_move (v := Vt) rfl) rfl ?_
      refine s_gy (.yes rfl rfl) (y_move (v := (.bool (v34))) g40) rfl ?_
      refine s_gy (.yes rfl rfl) (y_not rfl) rfl ?_
      refine s_y (y_pick_t rfl (v := (.bool (!(v34)))) rfl) rfl ?_
      refine s_y (y_move (v := (.bool (v34))) g40) rfl ?_
      refine s_y (y_assign (v := (.bool (!(v34)))) rfl) rfl ?_
      refine s_y (y_assign (v := (.bool (v34))) rfl) rfl ?_
      refine s_nil (hK42 _ _ (genC [(4, (.bool (!(v34)))), (5, (.bool (v34)))] ⟨rfl, rfl, trivial⟩ ?_))
      clear hK42; rintro E ⟨g43, g44, -⟩
      refine ret (hret _ _ [(.bool (!(v34))), (.bool (v34))] ⟨g43, g44, trivial⟩ ?_)
      have e1 : decide (owns g.l t ∧ aget held t = some false) = (!(v34)) := by grind
      have e2 : decide (owns g.l t ∧ aget held t = some true) = (v34) := by grind
      exact ⟨by rw [e1, e2]; rfl, ka32⟩

theorem reserve_spec {g : PoolG} {held : List (T4 × Bool)} {w : World} (h : PoolIs g held w) (ok : PoolOk g) (t : T4) (ht : -9223372036854775808 ≤ t.port ∧ t.port ≤ 9223372036854775807)  : Rets Tryd.prog 56 #[(.pointer (some ⟨g.pb, 0, none⟩)), (t4 t)] w fun v w' => v = .int .i64 (pRes g.l held t).1 ∧ PoolIs g (pRes g.l held t).2 w' ∧ Kp (· = g.mb) w w' := by
  refine enter Tryd.func56 rfl Tryd.ntmps56 rfl fun Q hret hend E hE => ?_
  have g1 : E 0 = (Vp g.pb 0) := hE 0
  have g2 : E 1 = (t4 t) := hE 1
  clear hE
  have hb0 := h.blk; have hl0 := h.row; have hm0 := h.map; have hn1 : g.pb ≠ g.mb := blk_ne_map h.blk h.map; have hn2 : g.lb ≠ g.mb := h.row.ne_map h.map
  have hlen := ok.len; have hlo := ok.lo; have hhi := ok.hi; have hle := ok.le; have hcap := ok.cap
  refine seq fun K3 hK3 => ?_
  refine reg ?_
  refine s_e (e_box (v := (t4 t)) g2) rfl ?_
  rintro _ w4 ⟨rfl, hb5, hk6⟩
  have ka7 : Kp (· = g.mb) w w4 := (Kp.then0 (Kp.refl _ _) hk6)
  refine s_y (y_assign (v := (Vi 0)) rfl) rfl ?_
  refine s_nil (hK3 _ _ (genC [(0, (Vp g.pb 0)), (3, (Vp w.heap.size 0))] ⟨g1, rfl, trivial⟩ ?_))
  clear hK3; rintro E ⟨g8, g9, -⟩
  refine seq fun K10 hK10 => ?_
  refine seq fun K11 hK11 => ?_
  refine reg ?_
  refine s_y (y_move (v := (Vp g.pb 0)) g8) rfl ?_
  refine s_y (y_load (v := (t4 t)) g9 (rd_agg (vs := t.cs) ag34 (On.now hb5) (by kernel_rfl) rfl)) rfl ?_
  have hb12 := (hk6.get0 hb0)
  have hf13 := (hl0.kp hk6 id)
  have hf14 := (hm0.kp hk6 id)
  refine s_e (e_call ca86 (args := [(Vp g.pb 0), (t4 t)]) rfl (may_spec ⟨hb12, hf13, hf14⟩ ok t)) rfl ?_
  rintro _ w16 ⟨rfl, hk17⟩
  have ka18 := (Kp.then0 ka7 hk17)
  refine s_y (y_assign (v := (Vi ((if owns g.l t then 0 else 1)))) rfl) rfl ?_
  refine s_nil (hK11 _ _ (genC [(0, (Vp g.pb 0)), (3, (Vp w.heap.size 0)), (5, (Vi ((if owns g.l t then 0 else 1))))] ⟨g8, g9, rfl, trivial⟩ ?_))
  clear hK11; rintro E ⟨g19, g20, g21, -⟩
  refine seq fun K22 hK22 => ?_
  refine reg ?_
  refine s_y (y_move (v := (Vi ((if owns g.l t then 0 else 1)))) g21) rfl ?_
  refine s_y (y_neq rfl rfl) rfl ?_
  refine s_nil (hK22 _ _ (genC [(0, (Vp g.pb 0)), (3, (Vp w.heap.size 0)), (5, (Vi ((if owns g.l t then 0 else 1)))), (12, (.bool (decide (((if owns g.l t then 0 else 1) : Int) ≠ 0))))] ⟨g19, g20, g21, rfl, trivial⟩ ?_))
  clear hK22; rintro E ⟨g23, g24, g25, g26, -⟩
  refine cond_d g26 (fun c27 => ?_) (fun c27 => ?_)
  · refine seq fun K28 hK28 => ?_
    refine reg ?_
    refine s_y (y_move (v := (Vi ((if owns g.l t then 0 else 1)))) g25) rfl ?_
    refine s_y (y_assign (v := (Vi ((if owns g.l t then 0 else 1)))) rfl) rfl ?_
    refine s_nil (hK28 _ _ (genC [(4, (Vi ((if owns g.l t then 0 else 1))))] ⟨rfl, trivial⟩ ?_))
    clear hK28; rintro E ⟨g29, -⟩
    refine ret (hret _ _ [(Vi ((if owns g.l t then 0 else 1)))] ⟨g29, trivial⟩ ?_)
    have hb30 := (hk17.get0 hb12)
    have hf31 := (hf13.kp hk17 id)
    have hf32 := (hf14.kp hk17 id)
    have e1 : pRes g.l held t = ((if owns g.l t then 0 else 1), held) := by grind [pRes]
    rw [e1]; exact ⟨rfl, ⟨hb30, hf31, hf32⟩, ka18⟩
  · refine skip (hK10 _ _ (genC [(0, (Vp g.pb 0)), (3, (Vp w.heap.size 0))] ⟨g23, g24, trivial⟩ ?_))
    clear hK10; rintro E ⟨g33, g34, -⟩
    refine seq fun K35 hK35 => ?_
    refine seq fun K36 hK36 => ?_
    refine regD (fun _ => False) (.take 0 (.take 1 (.take 2 (.take 3 (.take 4 (.take 5 (.take 6 (.take 7 (.take 8 (.take 9 (.take 10 .done))))))))))) mixed (by kernel_rfl) fun w37 hh38 hk39 => ?_
    have ka40 := (Kp.then0 ka18 hk39)
    refine o_y rfl (y_move (v := (Vp g.pb 0)) g33) ?_
    refine o_y rfl (y_nil rfl) ?_
    refine o_y rfl (y_fld fo146_3 rfl) ?_
    refine o_y rfl (y_load (v := (.map (some g.mb))) rfl (rd_sc sc144 (On.kp (hk39.get0 (hk17.get0 hb12)) id) rfl)) ?_
    refine o_y rfl (y_load (v := (t4 t)) g34 (rd_agg (vs := t.cs) ag34 (On.kp (hk39.get0 (hk17.get0 hb5)) id) (by kernel_rfl) rfl)) ?_
    cases c41 : aget held t with
    | none =>
      refine o_y rfl (y_lookup2_none kf34 Tryd.underlying144 ze4 (MapOn.kp ((hf14.kp hk17 id).kp hk39 id) id) rfl rfl (show inI t.port from inI_of (by omega) (by omega)) c41) ?_
      refine o_y rfl (y_move (v := (.tuple #[Vf, Vf])) rfl) ?_
      refine o_y rfl (y_ext rfl (v := Vf) rfl) ?_
      refine o_y rfl (y_ext rfl (v := Vf) rfl) ?_
      refine o_y rfl (y_assign (v := Vf) rfl) ?_
      refine o_y rfl (y_assign (v := Vf) rfl) ?_
      refine o_done (hK36 _ _ (genC [(0, (Vp g.pb 0)), (3, (Vp w.heap.size 0)), (7, Vf)] ⟨g33, g34, rfl, trivial⟩ ?_))
      clear hK36; rintro E ⟨g43, g44, g45, -⟩
      refine seq fun K46 hK46 => ?_
      refine reg ?_
      refine s_y (y_move (v := Vf) g45) rfl ?_
      refine s_nil (hK46 _ _ (genC [(0, (Vp g.pb 0)), (3, (Vp w.heap.size 0)), (23, Vf)] ⟨g43, g44, rfl, trivial⟩ ?_))
      clear hK46; rintro E ⟨g47, g48, g49, -⟩
      refine cond_f g49 ?_
      refine skip (hK35 _ _ (genC [(0, (Vp g.pb 0)), (3, (Vp w.heap.size 0))] ⟨g47, g48, trivial⟩ ?_))
      clear hK35; rintro E ⟨g50, g51, -⟩
      refine seq fun K52 hK52 => ?_
      refine regD (· = g.mb) (.take 0 (.take 1 (.take 2 (.take 3 (.take 4 (.one 5 .done)))))) mixed (by kernel_rfl) fun w53 hh54 hk55 => ?_
      have ka56 := (Kp.then0 ka40 hk55)
      refine o_y rfl (y_move (v := (Vp g.pb 0)) g50) ?_
      refine o_y rfl (y_nil rfl) ?_
      refine o_y rfl (y_fld fo146_3 rfl) ?_
      refine o_y rfl (y_load (v := (.map (some g.mb))) rfl (rd_sc sc144 (On.kp (hk55.get0 (hk39.get0 (hk17.get0 hb12))) hn1) rfl)) ?_
      refine o_y rfl (y_load (v := (t4 t)) g51 (rd_agg (vs := t.cs) ag34 (On.kp (hk55.get0 (hk39.get0 (hk17.get0 hb5))) (Nat.ne_of_gt (nt (hm0.lt) (Nat.le_refl _)))) (by kernel_rfl) rfl)) ?_
      refine o_one ?_
      have hf57 := (((hf14.kp hk17 id).kp hk39 id).kp hk55 id)
      refine c_e0 rfl (e_mapPut kf34 Tryd.underlying144 hf57 rfl rfl (v := true) rfl (show inI t.port from inI_of (by omega) (by omega)) c41) ?_
      rintro _ w58 ⟨hm59, hk60⟩
      have ka61 := (Kp.trans ka56 hk60 (fun _ _ e => e))
      have ks62 : Kp (· = g.mb) w53 w58 := (Kp.trans (Kp.refl _ _) hk60 (fun _ _ e => e))
      refine ⟨ks62, ?_⟩
      refine o_done (hK52 _ _ (genC [] trivial ?_))
      clear hK52; rintro E -
      refine seq fun K63 hK63 => ?_
      refine reg ?_
      refine s_y (y_assign (v := (Vi 0)) rfl) rfl ?_
      refine s_nil (hK63 _ _ (genC [(4, (Vi 0))] ⟨rfl, trivial⟩ ?_))
      clear hK63; rintro E ⟨g64, -⟩
      refine ret (hret _ _ [(Vi 0)] ⟨g64, trivial⟩ ?_)
      have hb65 := (hk60.get (hk55.get0 (hk39.get0 (hk17.get0 hb12))) hn1)
      have hf66 := ((((hf13.kp hk17 id).kp hk39 id).kp hk55 id).kp hk60 hn2)
      have e1 : pRes g.l held t = (0, (held ++ [(t, true)])) := by grind [pRes]
      rw [e1]; exact ⟨rfl, ⟨hb65, hf66, hm59⟩, ka61⟩
    | some v42 =>
      refine o_y rfl (y_lookup2_some kf34 Tryd.underlying144 ze4 (MapOn.kp ((hf14.kp hk17 id).kp hk39 id) id) rfl rfl (show inI t.port from inI_of (by omega) (by omega)) c41) ?_
      refine o_y rfl (y_move (v := (.tuple #[(.bool (v42)), Vt])) rfl) ?_
      refine o_y rfl (y_ext rfl (v := (.bool (v42))) rfl) ?_
      refine o_y rfl (y_ext rfl (v := Vt) rfl) ?_
      refine o_y rfl (y_assign (v := (.bool (v42))) rfl) ?_
      refine o_y rfl (y_assign (v := Vt) rfl) ?_
      refine o_done (hK36 _ _ (genC [(0, (Vp g.pb 0)), (3, (Vp w.heap.size 0)), (7, Vt)] ⟨g33, g34, rfl, trivial⟩ ?_))
      clear hK36; rintro E ⟨g67, g68, g69, -⟩
      refine seq fun K70 hK70 => ?_
      refine reg ?_
      refine s_y (y_move (v := Vt) g69) rfl ?_
      refine s_nil (hK70 _ _ (genC [(0, (Vp g.pb 0)), (3, (Vp w.heap.size 0)), (23, Vt)] ⟨g67, g68, rfl, trivial⟩ ?_))
      clear hK70; rintro E ⟨g71, g72, g73, -⟩
      refine cond_t g73 ?_
      refine seq fun K74 hK74 => ?_
      refine reg ?_
      refine s_y (y_assign (v := (Vi 5)) rfl) rfl ?_
      refine s_nil (hK74 _ _ (genC [(4, (Vi 5))] ⟨rfl, trivial⟩ ?_))
      clear hK74; rintro E ⟨g75, -⟩
      refine ret (hret _ _ [(Vi 5)] ⟨g75, trivial⟩ ?_)
      have hb76 := (hk39.get0 (hk17.get0 hb12))
      have hf77 := ((hf13.kp hk17 id).kp hk39 id)
      have hf78 := ((hf14.kp hk17 id).kp hk39 id)
      have e1 : pRes g.l held t = (5, held) := by grind [pRes]
      rw [e1]; exact ⟨rfl, ⟨hb76, hf77, hf78⟩, ka40⟩

theorem release_spec {g : PoolG} {held : List (T4 × Bool)} {w : World} (h : PoolIs g held w) (ok : PoolOk g) (t : T4) (ht : -9223372036854775808 ≤ t.port ∧ t.port ≤ 9223372036854775807)  : Rets Tryd.prog 57 #[(.pointer (some ⟨g.pb, 0, none⟩)), (t4 t)] w fun v w' => v = .int .i64 (pRel g.l held t).1 ∧ PoolIs g (pRel g.l held t).2 w' ∧ Kp (· = g.mb) w w' := by
  refine enter Tryd.func57 rfl Tryd.ntmps57 rfl fun Q hret hend E hE => ?_
  have g1 : E 0 = (Vp g.pb 0) := hE 0
  have g2 : E 1 = (t4 t) := hE 1
  clear hE
  have hb0 := h.blk; have hl0 := h.row; have hm0 := h.map; have hn1 : g.pb ≠ g.mb := blk_ne_map h.blk h.map; have hn2 : g.lb ≠ g.mb := h.row.ne_map h.map
  have hlen := ok.len; have hlo := ok.lo; have hhi := ok.hi; have hle := ok.le; have hcap := ok.cap
  refine seq fun K3 hK3 => ?_
  refine reg ?_
  refine s_e (e_box (v := (t4 t)) g2) rfl ?_
  rintro _ w4 ⟨rfl, hb5, hk6⟩
  have ka7 : Kp (· = g.mb) w w4 := (Kp.then0 (Kp.refl _ _) hk6)
  refine s_y (y_assign (v := (Vi 0)) rfl) rfl ?_
  refine s_nil (hK3 _ _ (genC [(0, (Vp g.pb 0)), (3, (Vp w.heap.size 0))] ⟨g1, rfl, trivial⟩ ?_))
  clear hK3; rintro E ⟨g8, g9, -⟩
  refine seq fun K10 hK10 => ?_
  refine seq fun K11 hK11 => ?_
  refine reg ?_
  refine s_y (y_move (v := (Vp g.pb 0)) g8) rfl ?_
  refine s_y (y_load (v := (t4 t)) g9 (rd_agg (vs := t.cs) ag34 (On.now hb5) (by kernel_rfl) rfl)) rfl ?_
  have hb12 := (hk6.get0 hb0)
  have hf13 := (hl0.kp hk6 id)
  have hf14 := (hm0.kp hk6 id)
  refine s_e (e_call ca86 (args := [(Vp g.pb 0), (t4 t)]) rfl (may_spec ⟨hb12, hf13, hf14⟩ ok t)) rfl ?_
  rintro _ w16 ⟨rfl, hk17⟩
  have ka18 := (Kp.then0 ka7 hk17)
  refine s_y (y_assign (v := (Vi ((if owns g.l t then 0 else 1)))) rfl) rfl ?_
  refine s_nil (hK11 _ _ (genC [(0, (Vp g.pb 0)), (3, (Vp w.heap.size 0)), (5, (Vi ((if owns g.l t then 0 else 1))))] ⟨g8, g9, rfl, trivial⟩ ?_))
  clear hK11; rintro E ⟨g19, g20, g21, -⟩
  refine seq fun K22 hK22 => ?_
  refine reg ?_
  refine s_y (y_move (v := (Vi ((if owns g.l t then 0 else 1)))) g21) rfl ?_
  refine s_y (y_neq rfl rfl) rfl ?_
  refine s_nil (hK22 _ _ (genC [(0, (Vp g.pb 0)), (3, (Vp w.heap.size 0)), (5, (Vi ((if owns g.l t then 0 else 1)))), (10, (.bool (decide (((if owns g.l t then 0 else 1) : Int) ≠ 0))))] ⟨g19, g20, g21, rfl, trivial⟩ ?_))
  clear hK22; rintro E ⟨g23, g24, g25, g26, -⟩
  refine cond_d g26 (fun c27 => ?_) (fun c27 => ?_)
  · refine seq fun K28 hK28 => ?_
    refine reg ?_
    refine s_y (y_move (v := (Vi ((if owns g.l t then 0 else 1)))) g25) rfl ?_
    refine s_y (y_assign (v := (Vi ((if owns g.l t then 0 else 1)))) rfl) rfl ?_
    refine s_nil (hK28 _ _ (genC [(4, (Vi ((if owns g.l t then 0 else 1))))] ⟨rfl, trivial⟩ ?_))
    clear hK28; rintro E ⟨g29, -⟩
    refine ret (hret _ _ [(Vi ((if owns g.l t then 0 else 1)))] ⟨g29, trivial⟩ ?_)
    have hb30 := (hk17.get0 hb12)
    have hf31 := (hf13.kp hk17 id)
    have hf32 := (hf14.kp hk17 id)
    have e1 : pRel g.l held t = ((if owns g.l t then 0 else 1), held) := by grind [pRel]
    rw [e1]; exact ⟨rfl, ⟨hb30, hf31, hf32⟩, ka18⟩
  · refine skip (hK10 _ _ (genC [(0, (Vp g.pb 0)), (3, (Vp w.heap.size 0))] ⟨g23, g24, trivial⟩ ?_))
    clear hK10; rintro E ⟨g33, g34, -⟩
    refine seq fun K35 hK35 => ?_
    refine seq fun K36 hK36 => ?_
    refine regD (fun _ => False) (.take 0 (.take 1 (.take 2 (.take 3 (.take 4 (.take 5 (.take 6 .done))))))) mixed (by kernel_rfl) fun w37 hh38 hk39 => ?_
    have ka40 := (Kp.then0 ka18 hk39)
    refine o_y rfl (y_move (v := (Vp g.pb 0)) g33) ?_
    refine o_y rfl (y_nil rfl) ?_
    refine o_y rfl (y_fld fo146_3 rfl) ?_
    refine o_y rfl (y_load (v := (.map (some g.mb))) rfl (rd_sc sc144 (On.kp (hk39.get0 (hk17.get0 hb12)) id) rfl)) ?_
    refine o_y rfl (y_load (v := (t4 t)) g34 (rd_agg (vs := t.cs) ag34 (On.kp (hk39.get0 (hk17.get0 hb5)) id) (by kernel_rfl) rfl)) ?_
    cases c41 : aget held t with
    | none =>
      refine o_y rfl (y_lookup_none kf34 Tryd.underlying144 ze4 (MapOn.kp ((hf14.kp hk17 id).kp hk39 id) id) rfl rfl (show inI t.port from inI_of (by omega) (by omega)) c41) ?_
      refine o_y rfl (y_not rfl) ?_
      refine o_done (hK36 _ _ (genC [(0, (Vp g.pb 0)), (3, (Vp w.heap.size 0)), (18, Vt)] ⟨g33, g34, rfl, trivial⟩ ?_))
      clear hK36; rintro E ⟨g43, g44, g45, -⟩
      refine cond_t g45 ?_
      refine seq fun K46 hK46 => ?_
      refine reg ?_
      refine s_y (y_assign (v := (Vi 4)) rfl) rfl ?_
      refine s_nil (hK46 _ _ (genC [(4, (Vi 4))] ⟨rfl, trivial⟩ ?_))
      clear hK46; rintro E ⟨g47, -⟩
      refine ret (hret _ _ [(Vi 4)] ⟨g47, trivial⟩ ?_)
      have hb48 := (hk39.get0 (hk17.get0 hb12))
      have hf49 := ((hf13.kp hk17 id).kp hk39 id)
      have hf50 := ((hf14.kp hk17 id).kp hk39 id)
      have e1 : pRel g.l held t = (4, held) := by grind [pRel]
      rw [e1]; exact ⟨rfl, ⟨hb48, hf49, hf50⟩, ka40⟩
    | some v42 =>
      refine o_y rfl (y_lookup_some kf34 Tryd.underlying144 ze4 (MapOn.kp ((hf14.kp hk17 id).kp hk39 id) id) rfl rfl (show inI t.port from inI_of (by omega) (by omega)) c41) ?_
      refine o_y rfl (y_not rfl) ?_
      refine o_done (hK36 _ _ (genC [(0, (Vp g.pb 0)), (3, (Vp w.heap.size 0)), (18, (.bool (!(v42))))] ⟨g33, g34, rfl, trivial⟩ ?_))
      clear hK36; rintro E ⟨g51, g52, g53, -⟩
      refine cond_b g53 (fun c54 => ?_) (fun c54 => ?_)
      · refine seq fun K55 hK55 => ?_
        refine reg ?_
        refine s_y (y_assign (v := (Vi 4)) rfl) rfl ?_
        refine s_nil (hK55 _ _ (genC [(4, (Vi 4))] ⟨rfl, trivial⟩ ?_))
        clear hK55; rintro E ⟨g56, -⟩
        refine ret (hret _ _ [(Vi 4)] ⟨g56, trivial⟩ ?_)
        have hb57 := (hk39.get0 (hk17.get0 hb12))
        have hf58 := ((hf13.kp hk17 id).kp hk39 id)
        have hf59 := ((hf14.kp hk17 id).kp hk39 id)
        have e1 : pRel g.l held t = (4, held) := by grind [pRel]
        rw [e1]; exact ⟨rfl, ⟨hb57, hf58, hf59⟩, ka40⟩
      · refine skip (hK35 _ _ (genC [(0, (Vp g.pb 0)), (3, (Vp w.heap.size 0))] ⟨g51, g52, trivial⟩ ?_))
        clear hK35; rintro E ⟨g60, g61, -⟩
        refine seq fun K62 hK62 => ?_
        refine regD (· = g.mb) (.take 0 (.take 1 (.take 2 (.take 3 (.take 4 (.one 5 .done)))))) mixed (by kernel_rfl) fun w63 hh64 hk65 => ?_
        have ka66 := (Kp.then0 ka40 hk65)
        refine o_y rfl (y_move (v := (Vp g.pb 0)) g60) ?_
        refine o_y rfl (y_nil rfl) ?_
        refine o_y rfl (y_fld fo146_3 rfl) ?_
        refine o_y rfl (y_load (v := (.map (some g.mb))) rfl (rd_sc sc144 (On.kp (hk65.get0 (hk39.get0 (hk17.get0 hb12))) hn1) rfl)) ?_
        refine o_y rfl (y_load (v := (t4 t)) g61 (rd_agg (vs := t.cs) ag34 (On.kp (hk65.get0 (hk39.get0 (hk17.get0 hb5))) (Nat.ne_of_gt (nt (hm0.lt) (Nat.le_refl _)))) (by kernel_rfl) rfl)) ?_
        refine o_one ?_
        have hf67 := (((hf14.kp hk17 id).kp hk39 id).kp hk65 id)
        refine c_e0 rfl (e_delete kf34 Tryd.underlying144 hf67 rfl rfl (show inI t.port from inI_of (by omega) (by omega))) ?_
        rintro _ w68 ⟨hm69, hk70⟩
        have ka71 := (Kp.trans ka66 hk70 (fun _ _ e => e))
        have ks72 : Kp (· = g.mb) w63 w68 := (Kp.trans (Kp.refl _ _) hk70 (fun _ _ e => e))
        refine ⟨ks72, ?_⟩
        refine o_done (hK62 _ _ (genC [] trivial ?_))
        clear hK62; rintro E -
        refine seq fun K73 hK73 => ?_
        refine reg ?_
        refine s_y (y_assign (v := (Vi 0)) rfl) rfl ?_
        refine s_nil (hK73 _ _ (genC [(4, (Vi 0))] ⟨rfl, trivial⟩ ?_))
        clear hK73; rintro E ⟨g74, -⟩
        refine ret (hret _ _ [(Vi 0)] ⟨g74, trivial⟩ ?_)
        have hb75 := (hk70.get (hk65.get0 (hk39.get0 (hk17.get0 hb12))) hn1)
        have hf76 := ((((hf13.kp hk17 id).kp hk39 id).kp hk65 id).kp hk70 hn2)
        have e1 : pRel g.l held t = (0, (adel held t)) := by grind [pRel]
        rw [e1]; exact ⟨rfl, ⟨hb75, hf76, hm69⟩, ka71⟩

theorem give_spec {g : PoolG} {held : List (T4 × Bool)} {w : World} (h : PoolIs g held w) (ok : PoolOk g) (t : T4) (ht : -9223372036854775808 ≤ t.port ∧ t.port ≤ 9223372036854775807)  : Rets Tryd.prog 52 #[(.pointer (some ⟨g.pb, 0, none⟩)), (t4 t)] w fun v w' => v = .int .i64 (pGive g.l held t).1 ∧ PoolIs g (pGive g.l held t).2 w' ∧ Kp (· = g.mb) w w' := by
  refine enter Tryd.func52 rfl Tryd.ntmps52 rfl fun Q hret hend E hE => ?_
  have g1 : E 0 = (Vp g.pb 0) := hE 0
  have g2 : E 1 = (t4 t) := hE 1
  clear hE
  have hb0 := h.blk; have hl0 := h.row; have hm0 := h.map; have hn1 : g.pb ≠ g.mb := blk_ne_map h.blk h.map; have hn2 : g.lb ≠ g.mb := h.row.ne_map h.map
  have hlen := ok.len; have hlo := ok.lo; have hhi := ok.hi; have hle := ok.le; have hcap := ok.cap
  refine seq fun K3 hK3 => ?_
  refine reg ?_
  refine s_e (e_box (v := (t4 t)) g2) rfl ?_
  rintro _ w4 ⟨rfl, hb5, hk6⟩
  have ka7 : Kp (· = g.mb) w w4 := (Kp.then0 (Kp.refl _ _) hk6)
  refine s_y (y_assign (v := (Vi 0)) rfl) rfl ?_
  refine s_nil (hK3 _ _ (genC [(0, (Vp g.pb 0)), (3, (Vp w.heap.size 0))] ⟨g1, rfl, trivial⟩ ?_))
  clear hK3; rintro E ⟨g8, g9, -⟩
  refine seq fun K10 hK10 => ?_
  refine seq fun K11 hK11 => ?_
  refine reg ?_
  refine s_y (y_move (v := (Vp g.pb 0)) g8) rfl ?_
  refine s_y (y_load (v := (t4 t)) g9 (rd_agg (vs := t.cs) ag34 (On.now hb5) (by kernel_rfl) rfl)) rfl ?_
  have hb12 := (hk6.get0 hb0)
  have hf13 := (hl0.kp hk6 id)
  have hf14 := (hm0.kp hk6 id)
  refine s_e (e_call ca86 (args := [(Vp g.pb 0), (t4 t)]) rfl (may_spec ⟨hb12, hf13, hf14⟩ ok t)) rfl ?_
  rintro _ w16 ⟨rfl, hk17⟩
  have ka18 := (Kp.then0 ka7 hk17)
  refine s_y (y_assign (v := (Vi ((if owns g.l t then 0 else 1)))) rfl) rfl ?_
  refine s_nil (hK11 _ _ (genC [(0, (Vp g.pb 0)), (3, (Vp w.heap.size 0)), (5, (Vi ((if owns g.l t then 0 else 1))))] ⟨g8, g9, rfl, trivial⟩ ?_))
  clear hK11; rintro E ⟨g19, g20, g21, -⟩
  refine seq fun K22 hK22 => ?_
  refine reg ?_
  refine s_y (y_move (v := (Vi ((if owns g.l t then 0 else 1)))) g21) rfl ?_
  refine s_y (y_neq rfl rfl) rfl ?_
  refine s_nil (hK22 _ _ (genC [(0, (Vp g.pb 0)), (3, (Vp w.heap.size 0)), (5, (Vi ((if owns g.l t then 0 else 1)))), (12, (.bool (decide (((if owns g.l t then 0 else 1) : Int) ≠ 0))))] ⟨g19, g20, g21, rfl, trivial⟩ ?_))
  clear hK22; rintro E ⟨g23, g24, g25, g26, -⟩
  refine cond_d g26 (fun c27 => ?_) (fun c27 => ?_)
  · refine seq fun K28 hK28 => ?_
    refine reg ?_
    refine s_y (y_move (v := (Vi ((if owns g.l t then 0 else 1)))) g25) rfl ?_
    refine s_y (y_assign (v := (Vi ((if owns g.l t then 0 else 1)))) rfl) rfl ?_
    refine s_nil (hK28 _ _ (genC [(4, (Vi ((if owns g.l t then 0 else 1))))] ⟨rfl, trivial⟩ ?_))
    clear hK28; rintro E ⟨g29, -⟩
    refine ret (hret _ _ [(Vi ((if owns g.l t then 0 else 1)))] ⟨g29, trivial⟩ ?_)
    have hb30 := (hk17.get0 hb12)
    have hf31 := (hf13.kp hk17 id)
    have hf32 := (hf14.kp hk17 id)
    have e1 : pGive g.l held t = ((if owns g.l t then 0 else 1), held) := by grind [pGive]
    rw [e1]; exact ⟨rfl, ⟨hb30, hf31, hf32⟩, ka18⟩
  · refine skip (hK10 _ _ (genC [(0, (Vp g.pb 0)), (3, (Vp w.heap.size 0))] ⟨g23, g24, trivial⟩ ?_))
    clear hK10; rintro E ⟨g33, g34, -⟩
    refine seq fun K35 hK35 => ?_
    refine regD (fun _ => False) (.take 0 (.take 1 (.take 2 (.take 3 (.take 4 (.take 5 (.take 6 (.take 7 (.take 8 (.take 9 (.take 10 .done))))))))))) mixed (by kernel_rfl) fun w36 hh37 hk38 => ?_
    have ka39 := (Kp.then0 ka18 hk38)
    refine o_y rfl (y_move (v := (Vp g.pb 0)) g33) ?_
    refine o_y rfl (y_nil rfl) ?_
    refine o_y rfl (y_fld fo146_3 rfl) ?_
    refine o_y rfl (y_load (v := (.map (some g.mb))) rfl (rd_sc sc144 (On.kp (hk38.get0 (hk17.get0 hb12)) id) rfl)) ?_
    refine o_y rfl (y_load (v := (t4 t)) g34 (rd_agg (vs := t.cs) ag34 (On.kp (hk38.get0 (hk17.get0 hb5)) id) (by kernel_rfl) rfl)) ?_
    cases c40 : aget held t with
    | none =>
      refine o_y rfl (y_lookup2_none kf34 Tryd.underlying144 ze4 (MapOn.kp ((hf14.kp hk17 id).kp hk38 id) id) rfl rfl (show inI t.port from inI_of (by omega) (by omega)) c40) ?_
      refine o_y rfl (y_move (v := (.tuple #[Vf, Vf])) rfl) ?_
      refine o_y rfl (y_ext rfl (v := Vf) rfl) ?_
      refine o_y rfl (y_ext rfl (v := Vf) rfl) ?_
      refine o_y rfl (y_assign (v := Vf) rfl) ?_
      refine o_y rfl (y_assign (v := Vf) rfl) ?_
      refine o_done (hK35 _ _ (genC [(0, (Vp g.pb 0)), (3, (Vp w.heap.size 0)), (6, Vf), (7, Vf)] ⟨g33, g34, rfl, rfl, trivial⟩ ?_))
      clear hK35; rintro E ⟨g42, g43, g44, g45, -⟩
      refine seq fun K46 hK46 => ?_
      refine block ?_
      refine seq fun K47 hK47 => ?_
      refine reg ?_
      refine s_y (y_move (v := Vf) g44) rfl ?_
      refine s_y (y_assign (v := Vf) rfl) rfl ?_
      refine s_nil (hK47 _ _ (genC [(0, (Vp g.pb 0)), (3, (Vp w.heap.size 0)), (7, Vf), (23, Vf)] ⟨g42, g43, g45, rfl, trivial⟩ ?_))
      clear hK47; rintro E ⟨g48, g49, g50, g51, -⟩
      refine cond_f g51 ?_
      refine seq fun K52 hK52 => ?_
      refine reg ?_
      refine s_y (y_move (v := Vf) g50) rfl ?_
      refine s_y (y_not rfl) rfl ?_
      refine s_y (y_assign (v := Vt) rfl) rfl ?_
      refine s_nil (hK52 _ _ (genC [(0, (Vp g.pb 0)), (3, (Vp w.heap.size 0)), (25, Vt)] ⟨g48, g49, rfl, trivial⟩ ?_))
      clear hK52; rintro E ⟨g53, g54, g55, -⟩
      refine cond_t g55 ?_
      refine seq fun K56 hK56 => ?_
      refine reg ?_
      refine s_y (y_assign (v := (Vi 4)) rfl) rfl ?_
      refine s_nil (hK56 _ _ (genC [(4, (Vi 4))] ⟨rfl, trivial⟩ ?_))
      clear hK56; rintro E ⟨g57, -⟩
      refine ret (hret _ _ [(Vi 4)] ⟨g57, trivial⟩ ?_)
      have hb58 := (hk38.get0 (hk17.get0 hb12))
      have hf59 := ((hf13.kp hk17 id).kp hk38 id)
      have hf60 := ((hf14.kp hk17 id).kp hk38 id)
      have e1 : pGive g.l held t = (4, held) := by grind [pGive]
      rw [e1]; exact ⟨rfl, ⟨hb58, hf59, hf60⟩, ka39⟩
    | some v41 =>
      refine o_y rfl (y_lookup2_some kf34 Tryd.underlying144 ze4 (MapOn.kp ((hf14.kp hk17 id).kp hk38 id) id) rfl rfl (show inI t.port from inI_of (by omega) (by omega)) c40) ?_
      refine o_y rfl (y_move (v := (.tuple #[(.bool (v41)), Vt])) rfl) ?_
      refine o_y rfl (y_ext rfl (v := (.bool (v41))) rfl) ?_
      refine o_y rfl (y_ext rfl (v := Vt) rfl) ?_
      refine o_y rfl (y_assign (v := (.bool (v41))) rfl) ?_
      refine o_y rfl (y_assign (v := Vt) rfl) ?_
      refine o_done (hK35 _ _ (genC [(0, (Vp g.pb 0)), (3, (Vp w.heap.size 0)), (6, (.bool (v41))), (7, Vt)] ⟨g33, g34, rfl, rfl, trivial⟩ ?_))
      clear hK35; rintro E ⟨g61, g62, g63, g64, -⟩
      refine seq fun K65 hK65 => ?_
      refine block ?_
      refine seq fun K66 hK66 => ?_
      refine reg ?_
      refine s_y (y_move (v := (.bool (v41))) g63) rfl ?_
      refine s_y (y_assign (v := (.bool (v41))) rfl) rfl ?_
      refine s_nil (hK66 _ _ (genC [(0, (Vp g.pb 0)), (3, (Vp w.heap.size 0)), (7, Vt), (23, (.bool (v41)))] ⟨g61, g62, g64, rfl, trivial⟩ ?_))
      clear hK66; rintro E ⟨g67, g68, g69, g70, -⟩
      refine cond_b g70 (fun c71 => ?_) (fun c71 => ?_)
      · refine seq fun K72 hK72 => ?_
        refine reg ?_
        refine s_y (y_assign (v := (Vi 11)) rfl) rfl ?_
        refine s_nil (hK72 _ _ (genC [(4, (Vi 11))] ⟨rfl, trivial⟩ ?_))
        clear hK72; rintro E ⟨g73, -⟩
        refine ret (hret _ _ [(Vi 11)] ⟨g73, trivial⟩ ?_)
        have hb74 := (hk38.get0 (hk17.get0 hb12))
        have hf75 := ((hf13.kp hk17 id).kp hk38 id)
        have hf76 := ((hf14.kp hk17 id).kp hk38 id)
        have e1 : pGive g.l held t = (11, held) := by grind [pGive]
        rw [e1]; exact ⟨rfl, ⟨hb74, hf75, hf76⟩, ka39⟩
      · refine seq fun K77 hK77 => ?_
        refine reg ?_
        refine s_y (y_move (v := Vt) g69) rfl ?_
        refine s_y (y_not rfl) rfl ?_
        refine s_y (y_assign (v := Vf) rfl) rfl ?_
        refine s_nil (hK77 _ _ (genC [(0, (Vp g.pb 0)), (3, (Vp w.heap.size 0)), (25, Vf)] ⟨g67, g68, rfl, trivial⟩ ?_))
        clear hK77; rintro E ⟨g78, g79, g80, -⟩
        refine cond_f g80 ?_
        refine skip (hK65 _ _ (genC [(0, (Vp g.pb 0)), (3, (Vp w.heap.size 0))] ⟨g78, g79, trivial⟩ ?_))
        clear hK65; rintro E ⟨g81, g82, -⟩
        refine seq fun K83 hK83 => ?_
        refine regD (· = g.mb) (.take 0 (.take 1 (.take 2 (.take 3 (.take 4 (.one 5 .done)))))) mixed (by kernel_rfl) fun w84 hh85 hk86 => ?_
        have ka87 := (Kp.then0 ka39 hk86)
        refine o_y rfl (y_move (v := (Vp g.pb 0)) g81) ?_
        refine o_y rfl (y_nil rfl) ?_
        refine o_y rfl (y_fld fo146_3 rfl) ?_
        refine o_y rfl (y_load (v := (.map (some g.mb))) rfl (rd_sc sc144 (On.kp (hk86.get0 (hk38.get0 (hk17.get0 hb12))) hn1) rfl)) ?_
        refine o_y rfl (y_load (v := (t4 t)) g82 (rd_agg (vs := t.cs) ag34 (On.kp (hk86.get0 (hk38.get0 (hk17.get0 hb5))) (Nat.ne_of_gt (nt (hm0.lt) (Nat.le_refl _)))) (by kernel_rfl) rfl)) ?_
        refine o_one ?_
        have hf88 := (((hf14.kp hk17 id).kp hk38 id).kp hk86 id)
        refine c_e0 rfl (e_delete kf34 Tryd.underlying144 hf88 rfl rfl (show inI t.port from inI_of (by omega) (by omega))) ?_
        rintro _ w89 ⟨hm90, hk91⟩
        have ka92 := (Kp.trans ka87 hk91 (fun _ _ e => e))
        have ks93 : Kp (· = g.mb) w84 w89 := (Kp.trans (Kp.refl _ _) hk91 (fun _ _ e => e))
        refine ⟨ks93, ?_⟩
        refine o_done (hK83 _ _ (genC [] trivial ?_))
        clear hK83; rintro E -
        refine seq fun K94 hK94 => ?_
        refine reg ?_
        refine s_y (y_assign (v := (Vi 0)) rfl) rfl ?_
        refine s_nil (hK94 _ _ (genC [(4, (Vi 0))] ⟨rfl, trivial⟩ ?_))
        clear hK94; rintro E ⟨g95, -⟩
        refine ret (hret _ _ [(Vi 0)] ⟨g95, trivial⟩ ?_)
        have hb96 := (hk91.get (hk86.get0 (hk38.get0 (hk17.get0 hb12))) hn1)
        have hf97 := ((((hf13.kp hk17 id).kp hk38 id).kp hk86 id).kp hk91 hn2)
        have e1 : pGive g.l held t = (0, (adel held t)) := by grind [pGive]
        rw [e1]; exact ⟨rfl, ⟨hb96, hf97, hm90⟩, ka92⟩

def inR (low high : Int) (p : T4 × Bool) : Bool := decide (low ≤ p.1.port ∧ p.1.port ≤ high)
def pFree (g : PoolG) (held : List (T4 × Bool)) : Int := (g.l.length : Int) * (g.high - g.low + 1) - (held.countP (inR g.low g.high) : Int)
theorem PoolOk.prod {g : PoolG} (ok : PoolOk g) : 0 ≤ (g.l.length : Int) * (g.high - g.low + 1) ∧ (g.l.length : Int) * (g.high - g.low + 1) ≤ 262144 := by
  have h1 := ok.len; have h2 := ok.lo; have h3 := ok.hi; have h4 := ok.le
  refine ⟨Int.mul_nonneg (by omega) (by omega), ?_⟩
  have := Int.mul_le_mul (show (g.l.length : Int) ≤ 4 by omega) (show g.high - g.low + 1 ≤ 65536 by omega) (by omega) (by omega)
  omega
theorem free_spec {g : PoolG} {held : List (T4 × Bool)} {w : World} (h : PoolIs g held w) (ok : PoolOk g) (hb : held.length ≤ 1000000) : Rets Tryd.prog 58 #[(.pointer (some ⟨g.pb, 0, none⟩))] w fun v w' => v = .int .i64 (pFree g held) ∧ K0 w w' := by
  refine enter Tryd.func58 rfl Tryd.ntmps58 rfl fun Q hret hend E hE => ?_
  have g1 : E 0 = (Vp g.pb 0) := hE 0
  clear hE
  have hb0 := h.blk; have hl0 := h.row; have hm0 := h.map; have hn1 : g.pb ≠ g.mb := blk_ne_map h.blk h.map; have hn2 : g.lb ≠ g.mb := h.row.ne_map h.map
  have hlen := ok.len; have hlo := ok.lo; have hhi := ok.hi; have hle := ok.le; have hcap := ok.cap
  have hN := ok.prod
  refine seq fun K2 hK2 => ?_
  refine reg ?_
  refine s_y (y_assign (v := (Vi 0)) rfl) rfl ?_
  refine s_nil (hK2 _ _ (genC [(0, (Vp g.pb 0))] ⟨g1, trivial⟩ ?_))
  clear hK2; rintro E ⟨g3, -⟩
  refine seq fun K4 hK4 => ?_
  refine seq fun K5 hK5 => ?_
  refine reg ?_
  refine s_y (y_move (v := (Vp g.pb 0)) g3) rfl ?_
  refine s_y (y_peq Tryd.underlying92 rfl rfl) rfl ?_
  refine s_y (y_move (v := Vf) rfl) rfl ?_
  refine s_gy (.yes rfl rfl) (y_move (v := (Vp g.pb 0)) g3) rfl ?_
  refine s_gy (.yes rfl rfl) (y_nil rfl) rfl ?_
  refine s_gy (.yes rfl rfl) (y_fld fo146_3 rfl) rfl ?_
  refine s_gy (.yes rfl rfl) (y_load (v := (.map (some g.mb))) rfl (rd_sc sc144 (On.now hb0) rfl)) rfl ?_
  refine s_gy (.yes rfl rfl) (y_meq Tryd.underlying144 rfl rfl) rfl ?_
  refine s_y (y_pick_f rfl (v := Vf) rfl) rfl ?_
  refine s_nil (hK5 _ _ (genC [(0, (Vp g.pb 0)), (13, Vf)] ⟨g3, rfl, trivial⟩ ?_))
  clear hK5; rintro E ⟨g6, g7, -⟩
  refine cond_f g7 ?_
  refine skip (hK4 _ _ (genC [(0, (Vp g.pb 0))] ⟨g6, trivial⟩ ?_))
  clear hK4; rintro E ⟨g8, -⟩
  refine seq fun K9 hK9 => ?_
  refine regD (fun _ => False) (.take 0 (.take 1 (.take 2 (.take 3 (.take 4 (.take 5 (.take 6 (.take 7 (.take 8 (.take 9 (.take 10 (.take 11 (.take 12 (.take 13 (.take 14 (.take 15 (.take 16 .done))))))))))))))))) mixed (by kernel_rfl) fun w10 hh11 hk12 => ?_
  have ka13 : Kp (fun _ => False) w w10 := (Kp.then0 (Kp.refl _ _) hk12)
  refine o_y rfl (y_move (v := (Vp g.pb 0)) g8) ?_
  refine o_y rfl (y_nil rfl) ?_
  refine o_y rfl (y_fld fo146_0 rfl) ?_
  refine o_y rfl (y_load (v := (.slice (some ⟨g.lb, 0, none⟩) g.l.length g.cap)) rfl (rd_sc sc28 (On.kp (hk12.get0 hb0) id) rfl)) ?_
  refine o_y rfl (y_lenS so28 rfl) ?_
  refine o_y rfl (y_move (v := (Vp g.pb 0)) g8) ?_
  refine o_y rfl (y_nil rfl) ?_
  refine o_y rfl (y_fld fo146_2 rfl) ?_
  refine o_y rfl (y_load (v := (Vi (g.high))) rfl (rd_sc sc3 (On.kp (hk12.get0 hb0) id) rfl)) ?_
  refine o_y rfl (y_move (v := (Vp g.pb 0)) g8) ?_
  refine o_y rfl (y_nil rfl) ?_
  refine o_y rfl (y_fld fo146_1 rfl) ?_
  refine o_y rfl (y_load (v := (Vi (g.low))) rfl (rd_sc sc3 (On.kp (hk12.get0 hb0) id) rfl)) ?_
  refine o_y rfl (y_sub rfl rfl (c := g.high - g.low) (by omega) rfl) ?_
  refine o_y rfl (y_add rfl rfl (c := g.high - g.low + 1) (by omega) rfl) ?_
  refine o_y rfl (y_mul rfl rfl (c := ((g.l.length : Nat) : Int) * (g.high - g.low + 1)) (by omega) rfl) ?_
  refine o_y rfl (y_assign (v := (Vi (((g.l.length : Nat) : Int) * (g.high - g.low + 1)))) rfl) ?_
  refine o_done (hK9 _ _ (genC [(0, (Vp g.pb 0)), (3, (Vi (((g.l.length : Nat) : Int) * (g.high - g.low + 1))))] ⟨g8, rfl, trivial⟩ ?_))
  clear hK9; rintro E ⟨g14, g15, -⟩
  refine seq fun K16 hK16 => ?_
  refine seq fun K17 hK17 => ?_
  refine reg ?_
  refine s_y (y_move (v := (Vp g.pb 0)) g14) rfl ?_
  refine s_y (y_nil rfl) rfl ?_
  refine s_y (y_fld fo146_3 rfl) rfl ?_
  have hb18 := (hk12.get0 hb0)
  refine s_y (y_load (v := (.map (some g.mb))) rfl (rd_sc sc144 (On.now hb18) rfl)) rfl ?_
  have hf19 := (hm0.kp hk12 id)
  refine s_e (e_range Tryd.underlying144 hf19 rfl) rfl ?_
  rintro _ w20 ⟨rfl, hit21, hk22⟩
  have ka23 := (Kp.then0 ka13 hk22)
  refine s_nil (hK17 _ _ (genC [(0, (Vp g.pb 0)), (3, (Vi (((g.l.length : Nat) : Int) * (g.high - g.low + 1)))), (34, (Vp w10.heap.size 0))] ⟨g14, g15, rfl, trivial⟩ ?_))
  clear hK17; rintro E ⟨g24, g25, g26, -⟩
  refine block ?_
  refine loopG (X := List (T4 × Bool) × List (T4 × Bool) × Int) (fun q_ E w_ => Has E [(0, (Vp g.pb 0)), (3, (Vi (q_.2.2))), (34, (Vp w10.heap.size 0))] ∧ Kp (· = w10.heap.size) w20 w_ ∧ (IterAt t4 (fun b : Bool => Value.bool b) (fun x : T4 => inI x.port) w_ w10.heap.size g.mb held q_.1 none) ∧ ((q_.2.1 ++ q_.1).Perm held) ∧ (q_.2.2 = (g.l.length : Int) * (g.high - g.low + 1) - (q_.2.1.countP (inR g.low g.high) : Int))) (fun q_ => q_.1.length) (held, [], ((g.l.length : Int) * (g.high - g.low + 1))) ⟨⟨g24, g25, g26, trivial⟩, Kp.refl _ _, (show IterAt t4 (fun b : Bool => Value.bool b) (fun x : T4 => inI x.port) w20 w10.heap.size g.mb held held none from (IterAt.forget hit21)), (show ([] ++ held).Perm held from (by simp)), (show ((g.l.length : Int) * (g.high - g.low + 1)) = (g.l.length : Int) * (g.high - g.low + 1) - ([].countP (inR g.low g.high) : Int) from (by simp))⟩ ?_
  rintro ⟨left, done, n⟩ E w30 ⟨⟨g27, g28, g29, -⟩, hk31, hi33, hi34, hi35⟩ K32 hK32
  replace g27 : E 0 = (Vp g.pb 0) := g27
  replace g28 : E 3 = (Vi n) := g28
  replace g29 : E 34 = (Vp w10.heap.size 0) := g29
  replace hi33 : IterAt t4 (fun b : Bool => Value.bool b) (fun x : T4 => inI x.port) w30 w10.heap.size g.mb held left none := hi33
  replace hi34 : (done ++ left).Perm held := hi34
  replace hi35 : n = (g.l.length : Int) * (g.high - g.low + 1) - (done.countP (inR g.low g.high) : Int) := hi35
  have ka36 := (Kp.fresh ka23 hk31 fun _ e => nl (nl hk12.size (Nat.le_refl _)) (Nat.le_of_eq e.symm))
  have hcp9 := List.countP_le_length (p := inR g.low g.high) (l := done)
  have hpl9 := (hi34).length_eq
  rw [List.length_append] at hpl9
  refine seq fun K37 hK37 => ?_
  refine reg ?_
  by_cases c38 : left = []
  · refine s_e (e_next_done' hi33 c38 g29) rfl ?_
    rintro _ w39 ⟨rfl, -, hk40⟩
    have ka41 := (Kp.then0 ka36 hk40)
    refine s_y (y_ext rfl (v := Vf) rfl) rfl ?_
    refine s_nil (hK37 _ _ (genC [(0, (Vp g.pb 0)), (3, (Vi n)), (34, (Vp w10.heap.size 0)), (36, Vf)] ⟨g27, g28, g29, rfl, trivial⟩ ?_))
    clear hK37; rintro E ⟨g42, g43, g44, g45, -⟩
    refine seq fun K46 hK46 => ?_
    refine cond_f g45 ?_
    refine exit (hK16 _ _ (genC [(3, (Vi n))] ⟨g43, trivial⟩ ?_))
    clear hK16; rintro E ⟨g47, -⟩
    refine seq fun K48 hK48 => ?_
    refine reg ?_
    refine s_y (y_move (v := (Vi n)) g47) rfl ?_
    refine s_y (y_assign (v := (Vi n)) rfl) rfl ?_
    refine s_nil (hK48 _ _ (genC [(2, (Vi n))] ⟨rfl, trivial⟩ ?_))
    clear hK48; rintro E ⟨g49, -⟩
    refine ret (hret _ _ [(Vi n)] ⟨g49, trivial⟩ ?_)
    refine ⟨congrArg (Value.int .i64) ?_, ka41⟩
    have hp9 := hi34
    rw [c38, List.append_nil] at hp9
    rw [hi35, pFree, hp9.countP_eq]
  · refine s_e (e_next_more hi33 c38 g29) rfl ?_
    rintro _ w50 ⟨i53, p54, hp55, rfl, hit52, hk51⟩
    have ka56 := (Kp.fresh ka36 hk51 fun _ e => nl (nl hk12.size (Nat.le_refl _)) (Nat.le_of_eq e.symm))
    refine s_y (y_ext rfl (v := Vt) rfl) rfl ?_
    refine s_nil (hK37 _ _ (genC [(0, (Vp g.pb 0)), (3, (Vi n)), (34, (Vp w10.heap.size 0)), (36, Vt)] ⟨g27, g28, g29, rfl, trivial⟩ ?_))
    clear hK37; rintro E ⟨g57, g58, g59, g60, -⟩
    refine seq fun K61 hK61 => ?_
    refine cond_t g60 ?_
    refine skip (hK61 _ _ (genC [(0, (Vp g.pb 0)), (3, (Vi n)), (34, (Vp w10.heap.size 0))] ⟨g57, g58, g59, trivial⟩ ?_))
    clear hK61; rintro E ⟨g62, g63, g64, -⟩
    refine block ?_
    refine seq fun K65 hK65 => ?_
    refine reg ?_
    refine s_y (y_entry (p := p54) hit52 g64) rfl ?_
    refine s_y (y_ext rfl (v := (t4 p54.1)) rfl) rfl ?_
    refine s_e (e_alloc ze34) rfl ?_
    rintro _ w66 ⟨rfl, hb67, hk68⟩
    have ka69 := (Kp.then0 ka56 hk68)
    refine s_e0 (e_storeV (cs' := p54.1.cs.toArray) p54.1.cs rfl (v := (t4 p54.1)) rfl rfl sz34 hb67 rfl rfl rfl) ?_
    rintro _ w70 ⟨hb71, hk72⟩
    have hz74 := (nl (nl (nl hk12.size hk22.size) hk31.size) hk51.size)
    have ka73 := (Kp.fresh ka69 hk72 fun _ e => nl (nl hz74 (Nat.le_refl _)) (Nat.le_of_eq e.symm))
    refine s_nil (hK65 _ _ (genC [(0, (Vp g.pb 0)), (3, (Vi n)), (4, (Vp w50.heap.size 0)), (34, (Vp w10.heap.size 0))] ⟨g62, g63, rfl, g64, trivial⟩ ?_))
    clear hK65; rintro E ⟨g75, g76, g77, g78, -⟩
    refine seq fun K79 hK79 => ?_
    refine regD (fun _ => False) (.take 0 (.take 1 (.take 2 (.take 3 (.take 4 (.take 5 (.take 6 (.take 7 (.take 8 (.take 9 (.take 10 (.take 11 (.take 12 (.take 13 (.take 14 (.take 15 .done)))))))))))))))) mixed (by kernel_rfl) fun w80 hh81 hk82 => ?_
    have ka83 := (Kp.then0 ka73 hk82)
    refine o_y rfl (y_fld fo34_1 g77) ?_
    refine o_y rfl (y_load (v := (Vi (p54.1.port))) rfl (rd_sc sc3 (On.kp (hk82.get0 hb71) id) rfl)) ?_
    refine o_y rfl (y_move (v := (Vp g.pb 0)) g75) ?_
    refine o_y rfl (y_nil rfl) ?_
    refine o_y rfl (y_fld fo146_1 rfl) ?_
    have hz84 := (nl (nl hk22.size hk31.size) hk51.size)
    refine o_y rfl (y_load (v := (Vi (g.low))) rfl (rd_sc sc3 (On.kp (hk82.get0 (hk72.get (hk68.get0 (hk51.get (hk31.get (hk22.get0 hb18) (Nat.ne_of_lt (nt (lt_of_get hb18) (Nat.le_refl _)))) (Nat.ne_of_lt (nt (lt_of_get hb18) (Nat.le_refl _))))) (Nat.ne_of_lt (nt (nt (lt_of_get hb18) hz84) (Nat.le_refl _))))) id) rfl)) ?_
    refine o_y rfl (y_geq rfl rfl) ?_
    refine o_y rfl (y_move (v := (.bool (decide ((g.low : Int) ≤ p54.1.port)))) rfl) ?_
    by_cases c85 : (g.low : Int) ≤ p54.1.port
    · refine o_gy rfl (.yes rfl (congrArg Value.bool (decide_eq_true c85))) (y_fld fo34_1 g77) ?_
      refine o_gy rfl (.yes rfl (congrArg Value.bool (decide_eq_true c85))) (y_load (v := (Vi (p54.1.port))) rfl (rd_sc sc3 (On.kp (hk82.get0 hb71) id) rfl)) ?_
      refine o_gy rfl (.yes rfl (congrArg Value.bool (decide_eq_true c85))) (y_move (v := (Vp g.pb 0)) g75) ?_
      refine o_gy rfl (.yes rfl (congrArg Value.bool (decide_eq_true c85))) (y_nil rfl) ?_
      refine o_gy rfl (.yes rfl (congrArg Value.bool (decide_eq_true c85))) (y_fld fo146_2 rfl) ?_
      refine o_gy rfl (.yes rfl (congrArg Value.bool (decide_eq_true c85))) (y_load (v := (Vi (g.high))) rfl (rd_sc sc3 (On.kp (hk82.get0 (hk72.get (hk68.get0 (hk51.get (hk31.get (hk22.get0 hb18) (Nat.ne_of_lt (nt (lt_of_get hb18) (Nat.le_refl _)))) (Nat.ne_of_lt (nt (lt_of_get hb18) (Nat.le_refl _))))) (Nat.ne_of_lt (nt (nt (lt_of_get hb18) hz84) (Nat.le_refl _))))) id) rfl)) ?_
      refine o_gy rfl (.yes rfl (congrArg Value.bool (decide_eq_true c85))) (y_leq rfl rfl) ?_
      refine o_y rfl (y_pick_t (congrArg Value.bool (decide_eq_true c85)) (v := (.bool (decide ((p54.1.port : Int) ≤ g.high)))) rfl) ?_
      refine o_done (hK79 _ _ (genC [(0, (Vp g.pb 0)), (3, (Vi n)), (34, (Vp w10.heap.size 0)), (54, (.bool (decide ((p54.1.port : Int) ≤ g.high))))] ⟨g75, g76, g78, rfl, trivial⟩ ?_))
      clear hK79; rintro E ⟨g86, g87, g88, g89, -⟩
      refine cond_d g89 (fun c90 => ?_) (fun c90 => ?_)
      · refine reg ?_
        refine s_y (y_move (v := (Vi n)) g87) rfl ?_
        refine s_y (y_sub rfl rfl (c := n - 1) (by omega) rfl) rfl ?_
        refine s_y (y_assign (v := (Vi (n - 1))) rfl) rfl ?_
        have hle9 := len_erase hp55
        have hf91 := (((hit52.kp hk68 id id).kp hk72 (Nat.ne_of_lt (nt (hit52.ltr) (Nat.le_refl _))) (Nat.ne_of_lt (nt (hit52.ltb) (Nat.le_refl _)))).kp hk82 id id)
        have kc92 : Kp (· = w10.heap.size) w20 w30 := (Kp.trans (Kp.refl _ _) hk31 (fun _ _ e => e))
        have kc93 : Kp (· = w10.heap.size) w20 w50 := (Kp.trans kc92 hk51 (fun _ _ e => e))
        have kc94 : Kp (· = w10.heap.size) w20 w66 := (Kp.then0 kc93 hk68)
        have kc95 : Kp (· = w10.heap.size) w20 w70 := (Kp.fresh kc94 hk72 fun _ e => nl (nl (nl hk31.size hk51.size) (Nat.le_refl _)) (Nat.le_of_eq e.symm))
        have kc96 : Kp (· = w10.heap.size) w20 w80 := (Kp.then0 kc95 hk82)
        exact s_nil (hK32 ((left.eraseIdx i53), (done ++ [p54]), (n - 1)) _ _ ⟨⟨g86, rfl, g88, trivial⟩, kc96, (show IterAt t4 (fun b : Bool => Value.bool b) (fun x : T4 => inI x.port) w80 w10.heap.size g.mb held (left.eraseIdx i53) none from (IterAt.forget hf91)), (show ((done ++ [p54]) ++ (left.eraseIdx i53)).Perm held from (perm_step hi34 hp55)), (show (n - 1) = (g.l.length : Int) * (g.high - g.low + 1) - ((done ++ [p54]).countP (inR g.low g.high) : Int) from (by rw [List.countP_append, List.countP_singleton]; grind [inR]))⟩ (by show (left.eraseIdx i53).length < left.length; omega))
      · have hle9 := len_erase hp55
        have hf97 := (((hit52.kp hk68 id id).kp hk72 (Nat.ne_of_lt (nt (hit52.ltr) (Nat.le_refl _))) (Nat.ne_of_lt (nt (hit52.ltb) (Nat.le_refl _)))).kp hk82 id id)
        have kc98 : Kp (· = w10.heap.size) w20 w30 := (Kp.trans (Kp.refl _ _) hk31 (fun _ _ e => e))
        have kc99 : Kp (· = w10.heap.size) w20 w50 := (Kp.trans kc98 hk51 (fun _ _ e => e))
        have kc100 : Kp (· = w10.heap.size) w20 w66 := (Kp.then0 kc99 hk68)
        have kc101 : Kp (· = w10.heap.size) w20 w70 := (Kp.fresh kc100 hk72 fun _ e => nl (nl (nl hk31.size hk51.size) (Nat.le_refl _)) (Nat.le_of_eq e.symm))
        have kc102 : Kp (· = w10.heap.size) w20 w80 := (Kp.then0 kc101 hk82)
        exact skip (hK32 ((left.eraseIdx i53), (done ++ [p54]), (n)) _ _ ⟨⟨g86, g87, g88, trivial⟩, kc102, (show IterAt t4 (fun b : Bool => Value.bool b) (fun x : T4 => inI x.port) w80 w10.heap.size g.mb held (left.eraseIdx i53) none from (IterAt.forget hf97)), (show ((done ++ [p54]) ++ (left.eraseIdx i53)).Perm held from (perm_step hi34 hp55)), (show (n) = (g.l.length : Int) * (g.high - g.low + 1) - ((done ++ [p54]).countP (inR g.low g.high) : Int) from (by rw [List.countP_append, List.countP_singleton]; grind [inR]))⟩ (by show (left.eraseIdx i53).length < left.length; omega))
    · refine o_no rfl (.no rfl (c := false) (congrArg Value.bool (decide_eq_false c85)) rfl) ?_
      refine o_no rfl (.no rfl (c := false) (congrArg Value.bool (decide_eq_false c85)) rfl) ?_
      refine o_no rfl (.no rfl (c := false) (congrArg Value.bool (decide_eq_false c85)) rfl) ?_
      refine o_no rfl (.no rfl (c := false) (congrArg Value.bool (decide_eq_false c85)) rfl) ?_
      refine o_no rfl (.no rfl (c := false) (congrArg Value.bool (decide_eq_false c85)) rfl) ?_
      refine o_no rfl (.no rfl (c := false) (congrArg Value.bool (decide_eq_false c85)) rfl) ?_
      refine o_no rfl (.no rfl (c := false) (congrArg Value.bool (decide_eq_false c85)) rfl) ?_
      refine o_y rfl (y_pick_f (congrArg Value.bool (decide_eq_false c85)) (v := Vf) rfl) ?_
      refine o_done (hK79 _ _ (genC [(0, (Vp g.pb 0)), (3, (Vi n)), (34, (Vp w10.heap.size 0)), (54, Vf)] ⟨g75, g76, g78, rfl, trivial⟩ ?_))
      clear hK79; rintro E ⟨g103, g104, g105, g106, -⟩
      refine cond_f g106 ?_
      have hle9 := len_erase hp55
      have hf107 := (((hit52.kp hk68 id id).kp hk72 (Nat.ne_of_lt (nt (hit52.ltr) (Nat.le_refl _))) (Nat.ne_of_lt (nt (hit52.ltb) (Nat.le_refl _)))).kp hk82 id id)
      have kc108 : Kp (· = w10.heap.size) w20 w30 := (Kp.trans (Kp.refl _ _) hk31 (fun _ _ e => e))
      have kc109 : Kp (· = w10.heap.size) w20 w50 := (Kp.trans kc108 hk51 (fun _ _ e => e))
      have kc110 : Kp (· = w10.heap.size) w20 w66 := (Kp.then0 kc109 hk68)
      have kc111 : Kp (· = w10.heap.size) w20 w70 := (Kp.fresh kc110 hk72 fun _ e => nl (nl (nl hk31.size hk51.size) (Nat.le_refl _)) (Nat.le_of_eq e.symm))
      have kc112 : Kp (· = w10.heap.size) w20 w80 := (Kp.then0 kc111 hk82)
      exact skip (hK32 ((left.eraseIdx i53), (done ++ [p54]), (n)) _ _ ⟨⟨g103, g104, g105, trivial⟩, kc112, (show IterAt t4 (fun b : Bool => Value.bool b) (fun x : T4 => inI x.port) w80 w10.heap.size g.mb held (left.eraseIdx i53) none from (IterAt.forget hf107)), (show ((done ++ [p54]) ++ (left.eraseIdx i53)).Perm held from (perm_step hi34 hp55)), (show (n) = (g.l.length : Int) * (g.high - g.low + 1) - ((done ++ [p54]).countP (inR g.low g.high) : Int) from (by rw [List.countP_append, List.countP_singleton]; grind [inR]))⟩ (by show (left.eraseIdx i53).length < left.length; omega))

end Go.Proofs.YtdcnblafepgheaaDoor
