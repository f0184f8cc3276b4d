/-
  Written by a program (wip/walks).
-/
import Derived.Test.YtdcnblafepgheaaDoorDom
namespace Go.Proofs.YtdcnblafepgheaaDoor
open Go Go.V
set_option maxRecDepth 100000
structure PoolG where
  (pb lb mb cap : Nat) (l : List V4) (low high : Int)
/-- block g.pb is a pool -/
structure PoolIs (g : PoolG) (held : List (T4 × Bool)) (w : World) : Prop where
  blk : Blk w g.pb #[.slice (some ⟨g.lb, 0, none⟩) g.l.length g.cap, .int .i64 g.low, .int .i64 g.high, .map (some g.mb)] 146
  row : Elts V4.cs 4 w g.lb 0 g.l
  map : MapAt t4 (fun b : Bool => Value.bool b) (fun x => inI x.port) w g.mb held
structure PoolOk (g : PoolG) : Prop where
  ne : g.l ≠ []
  nd : g.l.Nodup
  len : g.l.length ≤ 4
  cap : g.l.length ≤ g.cap
  lo : 0 ≤ g.low
  hi : g.high ≤ 65535
  le : g.low ≤ g.high
theorem PoolIs.kp {g : PoolG} {held : List (T4 × Bool)} {w w' : World} (h : PoolIs g held w) {F : Nat → Prop} (k : Kp F w w') (h1 : ¬ F g.pb) (h2 : ¬ F g.lb) (h3 : ¬ F g.mb) : PoolIs g held w' :=
  ⟨k.get h.blk h1, h.row.kp k h2, h.map.kp k h3⟩
/-- but for its map -/
theorem PoolIs.put {g : PoolG} {held held' : List (T4 × Bool)} {w w' : World} (h : PoolIs g held w) (k : Kp (· = g.mb) w w') (m : MapAt t4 (fun b : Bool => Value.bool b) (fun x => inI x.port) w' g.mb held') : PoolIs g held' w' :=
  ⟨k.get h.blk (blk_ne_map h.blk h.map), h.row.kp k (h.row.ne_map h.map), m⟩
def isPort (n : Int) : Prop := 0 ≤ n ∧ n ≤ 65535
instance (n : Int) : Decidable (isPort n) := by unfold isPort; infer_instance
def owns (l : List V4) (t : T4) : Prop := isPort t.port ∧ t.addr ∈ l
instance (l : List V4) (t : T4) : Decidable (owns l t) := by unfold owns; infer_instance
def cls (x p : Int) : Prop := isPort x ∧ isPort p ∧ (x < 1024 ↔ p < 1024) ∧ x.tmod 2 = p.tmod 2
instance (x p : Int) : Decidable (cls x p) := by unfold cls; infer_instance
theorem port_spec (n : Int) (w : World) : Rets Tryd.prog 79 #[(.int .i64 n)] w fun v w' => v = .bool (decide (isPort n)) ∧ K0 w w' := by
  refine enter Tryd.func79 rfl Tryd.ntmps79 rfl fun Q hret hend E hE => ?_
  have g1 : E 0 = (Vi n) := hE 0
  clear hE
  refine seq fun K2 hK2 => ?_
  refine reg ?_
  refine s_y (y_assign (v := Vf) rfl) rfl ?_
  refine s_nil (hK2 _ _ (genC [(0, (Vi n))] ⟨g1, trivial⟩ ?_))
  clear hK2; rintro E ⟨g3, -⟩
  refine seq fun K4 hK4 => ?_
  refine reg ?_
  refine s_y (y_move (v := (Vi n)) g3) rfl ?_
  refine s_y (y_geq rfl rfl) rfl ?_
  refine s_y (y_move (v := (.bool (decide ((0 : Int) ≤ n)))) rfl) rfl ?_
  by_cases c5 : (0 : Int) ≤ n
  · refine s_gy (.yes rfl (congrArg Value.bool (decide_eq_true c5))) (y_move (v := (Vi n)) g3) rfl ?_
    refine s_gy (.yes rfl (congrArg Value.bool (decide_eq_true c5))) (y_leq rfl rfl) rfl ?_
    refine s_y (y_pick_t (congrArg Value.bool (decide_eq_true c5)) (v := (.bool (decide ((n : Int) ≤ 65535)))) rfl) rfl ?_
    refine s_y (y_assign (v := (.bool (decide ((n : Int) ≤ 65535)))) rfl) rfl ?_
    refine s_nil (hK4 _ _ (genC [(2, (.bool (decide ((n : Int) ≤ 65535))))] ⟨rfl, trivial⟩ ?_))
    clear hK4; rintro E ⟨g6, -⟩
    refine ret (hret _ _ [(.bool (decide ((n : Int) ≤ 65535)))] ⟨g6, trivial⟩ ?_)
    exact ⟨congrArg Value.bool (by simp [isPort, c5]), (Kp.refl _ _)⟩
  · refine s_no (.no rfl (c := false) (congrArg Value.bool (decide_eq_false c5)) rfl) rfl ?_
    refine s_no (.no rfl (c := false) (congrArg Value.bool (decide_eq_false c5)) rfl) rfl ?_
    refine s_y (y_pick_f (congrArg Value.bool (decide_eq_false c5)) (v := Vf) rfl) rfl ?_
    refine s_y (y_assign (v := Vf) rfl) rfl ?_
    refine s_nil (hK4 _ _ (genC [(2, Vf)] ⟨rfl, trivial⟩ ?_))
    clear hK4; rintro E ⟨g7, -⟩
    refine ret (hret _ _ [Vf] ⟨g7, trivial⟩ ?_)
    exact ⟨congrArg Value.bool (by simp [isPort, c5]), (Kp.refl _ _)⟩

theorem class_spec (x p : Int) (w : World) : Rets Tryd.prog 42 #[(.int .i64 x), (.int .i64 p)] w fun v w' => v = .bool (decide (cls x p)) ∧ K0 w w' := by
  refine enter Tryd.func42 rfl Tryd.ntmps42 rfl fun Q hret hend E hE => ?_
  have g1 : E 0 = (Vi x) := hE 0
  have g2 : E 1 = (Vi p) := hE 1
  clear hE
  refine seq fun K3 hK3 => ?_
  refine reg ?_
  refine s_y (y_assign (v := Vf) rfl) rfl ?_
  refine s_nil (hK3 _ _ (genC [(0, (Vi x)), (1, (Vi p))] ⟨g1, g2, trivial⟩ ?_))
  clear hK3; rintro E ⟨g4, g5, -⟩
  refine seq fun K6 hK6 => ?_
  refine reg ?_
  refine s_y (y_move (v := (Vi x)) g4) rfl ?_
  refine s_e (e_call ca79 (args := [(Vi x)]) rfl (port_spec x _)) rfl ?_
  rintro _ w7 ⟨rfl, hk8⟩
  have ka9 : Kp (fun _ => False) w w7 := (Kp.then0 (Kp.refl _ _) hk8)
  refine s_y (y_move (v := (.bool (decide (isPort x)))) rfl) rfl ?_
  by_cases c10 : isPort x
  · refine s_gy (.yes rfl (congrArg Value.bool (decide_eq_true c10))) (y_move (v := (Vi p)) g5) rfl ?_
    refine s_ge (.yes rfl (congrArg Value.bool (decide_eq_true c10))) (e_call ca79 (args := [(Vi p)]) rfl (port_spec p _)) rfl ?_
    rintro _ w11 ⟨rfl, hk12⟩
    have ka13 := (Kp.then0 ka9 hk12)
    refine s_y (y_pick_t (congrArg Value.bool (decide_eq_true c10)) (v := (.bool (decide (isPort p)))) rfl) rfl ?_
    refine s_y (y_move (v := (.bool (decide (isPort p)))) rfl) rfl ?_
    by_cases c14 : isPort p
    · refine s_gy (.yes rfl (congrArg Value.bool (decide_eq_true c14))) (y_move (v := (Vi x)) g4) rfl ?_
      refine s_gy (.yes rfl (congrArg Value.bool (decide_eq_true c14))) (y_lss rfl rfl) rfl ?_
      refine s_gy (.yes rfl (congrArg Value.bool (decide_eq_true c14))) (y_move (v := (Vi p)) g5) rfl ?_
      refine s_gy (.yes rfl (congrArg Value.bool (decide_eq_true c14))) (y_lss rfl rfl) rfl ?_
      refine s_gy (.yes rfl (congrArg Value.bool (decide_eq_true c14))) (y_beql Tryd.underlying4 rfl rfl) rfl ?_
      refine s_y (y_pick_t (congrArg Value.bool (decide_eq_true c14)) (v := (.bool ((decide ((x : Int) < 1024)) == (decide ((p : Int) < 1024))))) rfl) rfl ?_
      refine s_y (y_move (v := (.bool ((decide ((x : Int) < 1024)) == (decide ((p : Int) < 1024))))) rfl) rfl ?_
      refine (Bool.eq_false_or_eq_true ((decide ((x : Int) < 1024)) == (decide ((p : Int) < 1024)))).elim (fun c15 => ?_) (fun c15 => ?_)
      · refine s_gy (.yes rfl (congrArg Value.bool c15)) (y_move (v := (Vi x)) g4) rfl ?_
        refine s_gy (.yes rfl (congrArg Value.bool c15)) (y_remw rfl rfl (by decide)) rfl ?_
        refine s_gy (.yes rfl (congrArg Value.bool c15)) (y_move (v := (Vi p)) g5) rfl ?_
        refine s_gy (.yes rfl (congrArg Value.bool c15)) (y_remw rfl rfl (by decide)) rfl ?_
        refine s_gy (.yes rfl (congrArg Value.bool c15)) (y_eql rfl rfl) rfl ?_
        refine s_y (y_pick_t (congrArg Value.bool c15) (v := (.bool (decide (((x : Int).tmod 2 : Int) = (p : Int).tmod 2)))) rfl) rfl ?_
        refine s_y (y_assign (v := (.bool (decide (((x : Int).tmod 2 : Int) = (p : Int).tmod 2)))) rfl) rfl ?_
        refine s_nil (hK6 _ _ (genC [(4, (.bool (decide (((x : Int).tmod 2 : Int) = (p : Int).tmod 2))))] ⟨rfl, trivial⟩ ?_))
        clear hK6; rintro E ⟨g16, -⟩
        refine ret (hret _ _ [(.bool (decide (((x : Int).tmod 2 : Int) = (p : Int).tmod 2)))] ⟨g16, trivial⟩ ?_)
        refine ⟨congrArg Value.bool ?_, ka13⟩
        simp [cls, c10, c14, c15]
      · refine s_no (.no rfl (c := false) (congrArg Value.bool c15) rfl) rfl ?_
        refine s_no (.no rfl (c := false) (congrArg Value.bool c15) rfl) rfl ?_
        refine s_no (.no rfl (c := false) (congrArg Value.bool c15) rfl) rfl ?_
        refine s_no (.no rfl (c := false) (congrArg Value.bool c15) rfl) rfl ?_
        refine s_no (.no rfl (c := false) (congrArg Value.bool c15) rfl) rfl ?_
        refine s_y (y_pick_f (congrArg Value.bool c15) (v := Vf) rfl) rfl ?_
        refine s_y (y_assign (v := Vf) rfl) rfl ?_
        refine s_nil (hK6 _ _ (genC [(4, Vf)] ⟨rfl, trivial⟩ ?_))
        clear hK6; rintro E ⟨g17, -⟩
        refine ret (hret _ _ [Vf] ⟨g17, trivial⟩ ?_)
        refine ⟨congrArg Value.bool ?_, ka13⟩
        simp [cls, c10, c14, c15]
    · refine s_no (.no rfl (c := false) (congrArg Value.bool (decide_eq_false c14)) rfl) rfl ?_
      refine s_no (.no rfl (c := false) (congrArg Value.bool (decide_eq_false c14)) rfl) rfl ?_
      refine s_no (.no rfl (c := false) (congrArg Value.bool (decide_eq_false c14)) rfl) rfl ?_
      refine s_no (.no rfl (c := false) (congrArg Value.bool (decide_eq_false c14)) rfl) rfl ?_
      refine s_no (.no rfl (c := false) (congrArg Value.bool (decide_eq_false c14)) rfl) rfl ?_
      refine s_y (y_pick_f (congrArg Value.bool (decide_eq_false c14)) (v := Vf) rfl) rfl ?_
      refine s_y (y_move (v := Vf) rfl) rfl ?_
      refine s_no (.no rfl (c := false) rfl rfl) rfl ?_
      refine s_no (.no rfl (c := false) rfl rfl) rfl ?_
      refine s_no (.no rfl (c := false) rfl rfl) rfl ?_
      refine s_no (.no rfl (c := false) rfl rfl) rfl ?_
      refine s_no (.no rfl (c := false) rfl rfl) rfl ?_
      refine s_y (y_pick_f rfl (v := Vf) rfl) rfl ?_
      refine s_y (y_assign (v := Vf) rfl) rfl ?_
      refine s_nil (hK6 _ _ (genC [(4, Vf)] ⟨rfl, trivial⟩ ?_))
      clear hK6; rintro E ⟨g18, -⟩
      refine ret (hret _ _ [Vf] ⟨g18, trivial⟩ ?_)
      refine ⟨congrArg Value.bool ?_, ka13⟩
      simp [cls, c10, c14]
  · refine s_no (.no rfl (c := false) (congrArg Value.bool (decide_eq_false c10)) rfl) rfl ?_
    refine s_no (.no rfl (c := false) (congrArg Value.bool (decide_eq_false c10)) rfl) rfl ?_
    refine s_y (y_pick_f (congrArg Value.bool (decide_eq_false c10)) (v := Vf) rfl) rfl ?_
    refine s_y (y_move (v := Vf) rfl) rfl ?_
    refine s_no (.no rfl (c := false) rfl rfl) rfl ?_
    refine s_no (.no rfl (c := false) rfl rfl) rfl ?_
    refine s_no (.no rfl (c := false) rfl rfl) rfl ?_
    refine s_no (.no rfl (c := false) rfl rfl) rfl ?_
    refine s_no (.no rfl (c := false) rfl rfl) rfl ?_
    refine s_y (y_pick_f rfl (v := Vf) rfl) rfl ?_
    refine s_y (y_move (v := Vf) rfl) rfl ?_
    refine s_no (.no rfl (c := false) rfl rfl) rfl ?_
    refine s_no (.no rfl (c := false) rfl rfl) rfl ?_
    refine s_no (.no rfl (c := false) rfl rfl) rfl ?_
    refine s_no (.no rfl (c := false) rfl rfl) rfl ?_
    refine s_no (.no rfl (c := false) rfl rfl) rfl ?_
    refine s_y (y_pick_f rfl (v := Vf) rfl) rfl ?_
    refine s_y (y_assign (v := Vf) rfl) rfl ?_
    refine s_nil (hK6 _ _ (genC [(4, Vf)] ⟨rfl, trivial⟩ ?_))
    clear hK6; rintro E ⟨g19, -⟩
    refine ret (hret _ _ [Vf] ⟨g19, trivial⟩ ?_)
    refine ⟨congrArg Value.bool ?_, ka9⟩
    simp [cls, c10]

theorem index4_spec {b o n c : Nat} {l : List V4} {w : World} (x : V4) (hn : n = l.length) (hmax : l.length ≤ 9223372036854775807) (hl : Elts V4.cs 4 w b o l) : Rets Tryd.prog 104 #[(.slice (some ⟨b, o, none⟩) n c), (v4 x)] w fun v w' => (∃ z : Int, v = .int .i64 z ∧ ((z = -1 ∧ x ∉ l) ∨ ∃ i : Nat, z = i ∧ l[i]? = some x ∧ ∀ j, j < i → l[j]? ≠ some x)) ∧ K0 w w' := by
  refine enter Tryd.func104 rfl Tryd.ntmps104 rfl fun Q hret hend E hE => ?_
  have g1 : E 0 = (.slice (some ⟨b, o, none⟩) n c) := hE 0
  have g2 : E 1 = (v4 x) := hE 1
  clear hE
  refine seq fun K3 hK3 => ?_
  refine reg ?_
  refine s_e (e_box (v := (v4 x)) g2) rfl ?_
  rintro _ w4 ⟨rfl, hb5, hk6⟩
  have ka7 : Kp (fun _ => False) w w4 := (Kp.then0 (Kp.refl _ _) hk6)
  refine s_y (y_assign (v := (Vi 0)) rfl) rfl ?_
  refine s_nil (hK3 _ _ (genC [(0, (.slice (some ⟨b, o, none⟩) n c)), (3, (Vp w.heap.size 0))] ⟨g1, rfl, trivial⟩ ?_))
  clear hK3; rintro E ⟨g8, g9, -⟩
  refine seq fun K10 hK10 => ?_
  refine seq fun K11 hK11 => ?_
  refine reg ?_
  refine s_y (y_move (v := (.slice (some ⟨b, o, none⟩) n c)) g8) rfl ?_
  refine s_y (y_lenS so28 rfl) rfl ?_
  refine s_y (y_move (v := (Vi 0)) rfl) rfl ?_
  refine s_nil (hK11 _ _ (genC [(0, (.slice (some ⟨b, o, none⟩) n c)), (3, (Vp w.heap.size 0)), (7, (Vi (((n : Nat) : Int)))), (8, (Vi 0))] ⟨g8, g9, rfl, rfl, trivial⟩ ?_))
  clear hK11; rintro E ⟨g12, g13, g14, g15, -⟩
  refine block ?_
  refine loopG (X := Nat) (fun q_ E w_ => Has E [(0, (.slice (some ⟨b, o, none⟩) n c)), (3, (Vp w.heap.size 0)), (7, (Vi (((n : Nat) : Int)))), (8, (Vi (((q_ : Nat) : Int))))] ∧ Kp (fun _ => False) w4 w_ ∧ (q_ ≤ l.length) ∧ (∀ j, j < q_ → l[j]? ≠ some x)) (fun q_ => l.length - q_) 0 ⟨⟨g12, g13, g14, g15, trivial⟩, Kp.refl _ _, (show 0 ≤ l.length from (by omega)), (show ∀ j, j < 0 → l[j]? ≠ some x from (by intro j hj; omega))⟩ ?_
  rintro i E w20 ⟨⟨g16, g17, g18, g19, -⟩, hk21, hi23, hi24⟩ K22 hK22
  replace hi23 : i ≤ l.length := hi23
  replace hi24 : ∀ j, j < i → l[j]? ≠ some x := hi24
  have ka25 := (Kp.then0 ka7 hk21)
  refine seq fun K26 hK26 => ?_
  refine reg ?_
  refine s_y (y_lss g19 g18) rfl ?_
  refine s_nil (hK26 _ _ (genC [(0, (.slice (some ⟨b, o, none⟩) n c)), (3, (Vp w.heap.size 0)), (7, (Vi (((n : Nat) : Int)))), (8, (Vi (((i : Nat) : Int)))), (9, (.bool (decide ((((i : Nat) : Int) : Int) < ((n : Nat) : Int)))))] ⟨g16, g17, g18, g19, rfl, trivial⟩ ?_))
  clear hK26; rintro E ⟨g27, g28, g29, g30, g31, -⟩
  refine seq fun K32 hK32 => ?_
  refine cond_d g31 (fun c33 => ?_) (fun c33 => ?_)
  · refine skip (hK32 _ _ (genC [(0, (.slice (some ⟨b, o, none⟩) n c)), (3, (Vp w.heap.size 0)), (7, (Vi (((n : Nat) : Int)))), (8, (Vi (((i : Nat) : Int))))] ⟨g27, g28, g29, g30, trivial⟩ ?_))
    clear hK32; rintro E ⟨g34, g35, g36, g37, -⟩
    refine seq fun K38 hK38 => ?_
    refine block ?_
    refine seq fun K39 hK39 => ?_
    refine reg ?_
    refine s_y (y_move (v := (Vi (((i : Nat) : Int)))) g37) rfl ?_
    refine s_y (y_assign (v := (Vi (((i : Nat) : Int)))) rfl) rfl ?_
    refine s_nil (hK39 _ _ (genC [(0, (.slice (some ⟨b, o, none⟩) n c)), (3, (Vp w.heap.size 0)), (5, (Vi (((i : Nat) : Int)))), (7, (Vi (((n : Nat) : Int)))), (8, (Vi (((i : Nat) : Int))))] ⟨g34, g35, rfl, g36, g37, trivial⟩ ?_))
    clear hK39; rintro E ⟨g40, g41, g42, g43, g44, -⟩
    refine seq fun K45 hK45 => ?_
    refine regD (fun _ => False) (.take 0 (.take 1 (.take 2 (.take 3 (.take 4 (.take 5 .done)))))) mixed (by kernel_rfl) fun w46 hh47 hk48 => ?_
    have ka49 := (Kp.then0 ka25 hk48)
    refine o_y rfl (y_load (v := (v4 x)) g41 (rd_agg (vs := [(u8 x.a), (u8 x.b), (u8 x.c), (u8 x.d)]) ag27 (On.kp (hk48.get0 (hk21.get0 hb5)) id) (by kernel_rfl) rfl)) ?_
    refine o_y rfl (y_move (v := (.slice (some ⟨b, o, none⟩) n c)) g40) ?_
    refine o_y rfl (y_move (v := (Vi (((i : Nat) : Int)))) g42) ?_
    refine o_y rfl (y_idx so28 sz27 rfl (i := i) rfl (by omega)) ?_
    obtain ⟨x50, hx51⟩ : ∃ x, l[i]? = some x := ⟨_, List.getElem?_eq_getElem (by omega)⟩
    refine o_y rfl (y_load (v := (.agg #[u8 x50.a, u8 x50.b, u8 x50.c, u8 x50.d])) rfl (rd_el ag27 (EltsOn.kp (((hl.kp hk6 id).kp hk21 id).kp hk48 id) id) hx51 (vs := [(u8 x50.a), (u8 x50.b), (u8 x50.c), (u8 x50.d)]) rfl)) ?_
    refine o_y rfl (y_eqT (eq27 9998) eg27 (x := x) (y := x50) rfl rfl ⟨_, rfl⟩ ⟨_, rfl⟩) ?_
    refine o_done (hK45 _ _ (genC [(0, (.slice (some ⟨b, o, none⟩) n c)), (3, (Vp w.heap.size 0)), (5, (Vi (((i : Nat) : Int)))), (7, (Vi (((n : Nat) : Int)))), (8, (Vi (((i : Nat) : Int)))), (16, (.bool (decide (x = x50))))] ⟨g40, g41, g42, g43, g44, rfl, trivial⟩ ?_))
    clear hK45; rintro E ⟨g52, g53, g54, g55, g56, g57, -⟩
    refine cond_d g57 (fun c58 => ?_) (fun c58 => ?_)
    · refine seq fun K59 hK59 => ?_
      refine reg ?_
      refine s_y (y_move (v := (Vi (((i : Nat) : Int)))) g54) rfl ?_
      refine s_y (y_assign (v := (Vi (((i : Nat) : Int)))) rfl) rfl ?_
      refine s_nil (hK59 _ _ (genC [(4, (Vi (((i : Nat) : Int))))] ⟨rfl, trivial⟩ ?_))
      clear hK59; rintro E ⟨g60, -⟩
      refine ret (hret _ _ [(Vi (((i : Nat) : Int)))] ⟨g60, trivial⟩ ?_)
      exact ⟨⟨_, rfl, .inr ⟨i, rfl, by rw [hx51, c58], hi24⟩⟩, ka49⟩
    · refine skip (hK38 _ _ (genC [(0, (.slice (some ⟨b, o, none⟩) n c)), (3, (Vp w.heap.size 0)), (7, (Vi (((n : Nat) : Int)))), (8, (Vi (((i : Nat) : Int))))] ⟨g52, g53, g55, g56, trivial⟩ ?_))
      clear hK38; rintro E ⟨g61, g62, g63, g64, -⟩
      refine reg ?_
      refine s_y (y_add g64 rfl (c := ((i : Nat) : Int) + 1) (by omega) rfl) rfl ?_
      refine s_y (y_move (v := (Vi (((i : Nat) : Int) + 1))) rfl) rfl ?_
      have kc65 : Kp (fun _ => False) w4 w20 := (Kp.then0 (Kp.refl _ _) hk21)
      have kc66 : Kp (fun _ => False) w4 w46 := (Kp.then0 kc65 hk48)
      exact s_nil (hK22 (i + 1) _ _ ⟨⟨g61, g62, g63, rfl, trivial⟩, kc66, (show (i + 1) ≤ l.length from (by omega)), (show ∀ j, j < (i + 1) → l[j]? ≠ some x from (by
          intro j hj
          rcases Nat.lt_or_ge j i with h | h
          · exact hi24 j h
          have e2 : j = i := by omega
          rw [e2, hx51]; intro e; injection e with e; exact c58 e.symm))⟩ (by show l.length - (i + 1) < l.length - i; omega))
  · refine exit (hK10 _ _ (genC [] trivial ?_))
    clear hK10; rintro E -
    refine seq fun K67 hK67 => ?_
    refine reg ?_
    refine s_y (y_assign (v := (Vi (-1))) rfl) rfl ?_
    refine s_nil (hK67 _ _ (genC [(4, (Vi (-1)))] ⟨rfl, trivial⟩ ?_))
    clear hK67; rintro E ⟨g68, -⟩
    refine ret (hret _ _ [(Vi (-1))] ⟨g68, trivial⟩ ?_)
    refine ⟨⟨_, rfl, .inl ⟨rfl, fun hx => ?_⟩⟩, ka25⟩
    obtain ⟨j, hj⟩ := List.mem_iff_getElem?.1 hx
    have := (List.getElem?_eq_some_iff.1 hj).1
    exact hi24 j (by omega) hj

theorem contains4_spec {b o n c : Nat} {l : List V4} {w : World} (x : V4) (hn : n = l.length) (hmax : l.length ≤ 9223372036854775807) (hl : Elts V4.cs 4 w b o l) : Rets Tryd.prog 81 #[(.slice (some ⟨b, o, none⟩) n c), (v4 x)] w fun v w' => v = .bool (decide (x ∈ l)) ∧ K0 w w' := by
  refine enter Tryd.func81 rfl Tryd.ntmps81 rfl fun Q hret hend E hE => ?_
  have g1 : E 0 = (.slice (some ⟨b, o, none⟩) n c) := hE 0
  have g2 : E 1 = (v4 x) := hE 1
  clear hE
  refine seq fun K3 hK3 => ?_
  refine reg ?_
  refine s_e (e_box (v := (v4 x)) g2) rfl ?_
  rintro _ w4 ⟨rfl, hb5, hk6⟩
  have ka7 : Kp (fun _ => False) w w4 := (Kp.then0 (Kp.refl _ _) hk6)
  refine s_y (y_assign (v := Vf) rfl) rfl ?_
  refine s_nil (hK3 _ _ (genC [(0, (.slice (some ⟨b, o, none⟩) n c)), (3, (Vp w.heap.size 0))] ⟨g1, rfl, trivial⟩ ?_))
  clear hK3; rintro E ⟨g8, g9, -⟩
  refine seq fun K10 hK10 => ?_
  refine reg ?_
  refine s_y (y_move (v := (.slice (some ⟨b, o, none⟩) n c)) g8) rfl ?_
  refine s_y (y_load (v := (v4 x)) g9 (rd_agg (vs := [(u8 x.a), (u8 x.b), (u8 x.c), (u8 x.d)]) ag27 (On.now hb5) (by kernel_rfl) rfl)) rfl ?_
  have hf11 := (hl.kp hk6 id)
  refine s_e (e_call ca104 (args := [(.slice (some ⟨b, o, none⟩) n c), (v4 x)]) rfl (index4_spec x (by exact hn) (by omega) hf11)) rfl ?_
  rintro _ w12 ⟨⟨z14, rfl, hz15⟩, hk13⟩
  have ka16 := (Kp.then0 ka7 hk13)
  refine s_y (y_geq rfl rfl) rfl ?_
  refine s_y (y_assign (v := (.bool (decide ((0 : Int) ≤ z14)))) rfl) rfl ?_
  refine s_nil (hK10 _ _ (genC [(4, (.bool (decide ((0 : Int) ≤ z14))))] ⟨rfl, trivial⟩ ?_))
  clear hK10; rintro E ⟨g17, -⟩
  refine ret (hret _ _ [(.bool (decide ((0 : Int) ≤ z14)))] ⟨g17, trivial⟩ ?_)
  refine ⟨congrArg Value.bool ?_, ka16⟩
  rcases hz15 with ⟨h1, h2⟩ | ⟨i, h1, h2, _⟩
  · rw [decide_eq_false h2, decide_eq_false (by omega)]
  · rw [decide_eq_true (List.mem_of_getElem? h2), decide_eq_true (by omega)]

end Go.Proofs.YtdcnblafepgheaaDoor
