/-
  Written by a program (wip/walks).
-/
import Derived.Test.YtdcnblafepgheaaDoorS16
import Derived.Test.YtdcnblafepgheaaDoorV12
namespace Go.Proofs.YtdcnblafepgheaaDoor
open Go Go.V
set_option maxRecDepth 100000
structure Act where
  (do_ : Int) (a : UInt8) (b port n s d : Int)
instance : Inhabited Act := ⟨⟨0, 0, 0, 0, 0, 0, 0⟩⟩
abbrev Act.cs (x : Act) : List Value := [.int .u8 x.do_, u8 x.a, .int .i64 x.b, .int .i64 x.port, .int .i64 x.n, .int .i64 x.s, .int .i64 x.d]
def Act.good (x : Act) : Prop := (0 ≤ x.do_ ∧ x.do_ ≤ 255) ∧ (-9223372036854775808 ≤ x.b ∧ x.b ≤ 9223372036854775807) ∧ (-9223372036854775808 ≤ x.port ∧ x.port ≤ 9223372036854775807) ∧ (-9223372036854775808 ≤ x.n ∧ x.n ≤ 9223372036854775807) ∧ (-9223372036854775808 ≤ x.s ∧ x.s ≤ 9223372036854775807) ∧ (-9223372036854775808 ≤ x.d ∧ x.d ≤ 9223372036854775807)
theorem y_neg {P : Program} {W : World → Prop} {E : Env} {x : Operand} {ty t : TypeId} {a : Int} (hx : ev E x = .int .i64 a) (hr : -9223372036854775808 ≤ -a ∧ -a ≤ 9223372036854775807) : Yld P W E (.unOp .neg t x) ty (.int .i64 (-a)) := fun _ _ => by
  simp [exe, execOp, hx, Op.unary, Op.intArith, wrap_i64 hr]
theorem addX_bnd {m : Int} {a : Sx} {b : Int} {t : T4} {s d : Int} {Q : Int → Prop} (h : ∀ x ∈ a.L, Q x.binding) (hb : Q b) : ∀ x ∈ (addX m a b t s d).2.2.L, Q x.binding := by
  unfold addX; split
  · exact h
  · split
    · exact h
    · split
      · exact h
      · intro x hx
        rcases List.mem_append.1 hx with hx | hx
        · exact h x hx
        · rw [List.mem_singleton.1 hx]; exact hb
theorem dropX_bnd {a : Sx} {n : Int} {Q : Int → Prop} (h : ∀ x ∈ a.L, Q x.binding) : ∀ x ∈ (dropX a n).2.2.L, Q x.binding := by
  unfold dropX; split
  · exact h
  · intro x hx; exact h x (List.mem_filter.1 hx).1
theorem popX_bnd {a : Sx} {n : Int} {Q : Int → Prop} (h : ∀ x ∈ a.L, Q x.binding) : ∀ x ∈ (popX a n).L, Q x.binding := fun x hx => h x (List.mem_filter.1 hx).1
def B4 (x : Int) : Prop := 0 ≤ x ∧ x ≤ 3
def cntB (L : List Session) (k : Int) : Nat := (L.filter fun x => decide (x.binding = k)).length
def sumB (L : List Session) : Nat → Nat
  | 0 => 0
  | k + 1 => sumB L k + cntB L (k : Int)
theorem sumB_cons (x : Session) (L : List Session) (k : Nat) : sumB (x :: L) k = sumB L k + if 0 ≤ x.binding ∧ x.binding < (k : Int) then 1 else 0 := by
  induction k with
  | zero => rw [if_neg (by omega)]; rfl
  | succ k ih =>
    unfold sumB; rw [ih]; unfold cntB
    by_cases e : x.binding = (k : Int)
    · rw [List.filter_cons_of_pos (by simpa using e), List.length_cons, if_neg (by omega), if_pos (by omega)]; omega
    · rw [List.filter_cons_of_neg (by simpa using e)]
      by_cases h : 0 ≤ x.binding ∧ x.binding < (k : Int)
      · rw [if_pos h, if_pos (by omega)]; omega
      · rw [if_neg h, if_neg (by omega)]; omega
theorem sumB_all {L : List Session} (h : ∀ x ∈ L, B4 x.binding) : sumB L 4 = L.length := by
  induction L with
  | nil => rfl
  | cons x L ih =>
    have := h x (by simp)
    unfold B4 at this
    rw [sumB_cons, ih fun y hy => h y (by simp [hy]), if_pos (by omega)]; rfl
theorem sumB_le (L : List Session) (k : Nat) : sumB L k ≤ L.length := by
  induction L with
  | nil => induction k with
    | zero => exact Nat.le_refl _
    | succ k ih => exact ih
  | cons x L ih =>
    rw [sumB_cons, List.length_cons]
    split <;> omega
theorem any_next {ys : List Session} {f : Session → Bool} {i : Nat} {x : Session} (hx : ys[i]? = some x) : (ys.take (i + 1)).any f = ((ys.take i).any f || f x) := by
  rw [List.take_add_one, List.any_append, hx]; simp
theorem ne_dead {x y : Bool} (h : x = y) (c : (!(x == y)) = true) : False := by subst h; simp at c
theorem STab.smallL {m : Int} {g : SesG} {c : Int} {B : Nat} {a : Sx} {st : SesS} {w : World} (h : STab m g c B a st w) : a.L.length ≤ 1000000 := by
  have h1 := h.wf.len; have h2 := h.ok.mx; have h3 := h.gm; omega
theorem tmod4 (b : Int) : -3 ≤ b.tmod 4 ∧ b.tmod 4 ≤ 3 := by
  rcases Int.le_total 0 b with h | h
  · rw [Int.tmod_eq_emod_of_nonneg h]; omega
  · have e : b.tmod 4 = -((-b).tmod 4) := by rw [Int.neg_tmod, Int.neg_neg]
    rw [e, Int.tmod_eq_emod_of_nonneg (by omega)]; omega
theorem sessionParts_nil (max : Int) (hm : -9223372036854775808 ≤ max ∧ max ≤ 9223372036854775807) {p : Option Addr} {c : Nat} {w : World} (hT : Tb w) : Rets Tryd.prog 5 #[(.int .i64 max), (.slice p 0 c)] w fun v w' => v = .bool true ∧ K0 w w' := by
  refine enter Tryd.func5 rfl Tryd.ntmps5 rfl fun Q hret hend E hE => ?_
  have g1 : E 0 = (Vi max) := hE 0
  have g2 : E 1 = (.slice p 0 c) := hE 1
  clear hE
  refine seq fun K3 hK3 => ?_
  refine reg ?_
  refine s_y (y_assign (v := Vf) rfl) rfl ?_
  refine s_nil (hK3 _ _ (genC [(0, (Vi max)), (1, (.slice p 0 c))] ⟨g1, g2, trivial⟩ ?_))
  clear hK3; rintro E ⟨g4, g5, -⟩
  refine seq fun K6 hK6 => ?_
  refine seq fun K7 hK7 => ?_
  refine reg ?_
  refine s_y (y_move (v := (Vi max)) g4) rfl ?_
  refine s_y (y_lss rfl rfl) rfl ?_
  refine s_y (y_move (v := (.bool (decide ((max : Int) < 1)))) rfl) rfl ?_
  by_cases c8 : (max : Int) < 1
  · refine s_no (.no rfl (c := true) (congrArg Value.bool (decide_eq_true c8)) rfl) rfl ?_
    refine s_no (.no rfl (c := true) (congrArg Value.bool (decide_eq_true c8)) rfl) rfl ?_
    refine s_y (y_pick_t (congrArg Value.bool (decide_eq_true c8)) (v := Vt) rfl) rfl ?_
    refine s_y (y_move (v := Vt) rfl) rfl ?_
    refine s_no (.no rfl (c := true) rfl rfl) rfl ?_
    refine s_no (.no rfl (c := true) rfl rfl) rfl ?_
    refine s_no (.no rfl (c := true) rfl rfl) rfl ?_
    refine s_y (y_pick_t rfl (v := Vt) rfl) rfl ?_
    refine s_nil (hK7 _ _ (genC [(0, (Vi max)), (1, (.slice p 0 c)), (25, Vt)] ⟨g4, g5, rfl, trivial⟩ ?_))
    clear hK7; rintro E ⟨g9, g10, g11, -⟩
    refine cond_t g11 ?_
    refine seq fun K12 hK12 => ?_
    refine reg ?_
    refine s_e (e_call ca25 (args := []) rfl (swakes_spec hT)) rfl ?_
    rintro _ w13 ⟨rfl, hk14⟩
    have ka15 : Kp (fun _ => False) w w13 := (Kp.then0 (Kp.refl _ _) hk14)
    refine s_y (y_assign (v := Vt) rfl) rfl ?_
    refine s_nil (hK12 _ _ (genC [(4, Vt)] ⟨rfl, trivial⟩ ?_))
    clear hK12; rintro E ⟨g16, -⟩
    refine ret (hret _ _ [Vt] ⟨g16, trivial⟩ ?_)
    exact ⟨rfl, ka15⟩
  · refine s_gy (.yes rfl (congrArg Value.bool (decide_eq_false c8))) (y_move (v := (Vi max)) g4) rfl ?_
    refine s_gy (.yes rfl (congrArg Value.bool (decide_eq_false c8))) (y_gtr rfl rfl) rfl ?_
    refine s_y (y_pick_f (congrArg Value.bool (decide_eq_false c8)) (v := (.bool (decide ((100 : Int) < max)))) rfl) rfl ?_
    refine s_y (y_move (v := (.bool (decide ((100 : Int) < max)))) rfl) rfl ?_
    by_cases c17 : (100 : Int) < max
    · refine s_no (.no rfl (c := true) (congrArg Value.bool (decide_eq_true c17)) rfl) rfl ?_
      refine s_no (.no rfl (c := true) (congrArg Value.bool (decide_eq_true c17)) rfl) rfl ?_
      refine s_no (.no rfl (c := true) (congrArg Value.bool (decide_eq_true c17)) rfl) rfl ?_
      refine s_y (y_pick_t (congrArg Value.bool (decide_eq_true c17)) (v := Vt) rfl) rfl ?_
      refine s_nil (hK7 _ _ (genC [(0, (Vi max)), (1, (.slice p 0 c)), (25, Vt)] ⟨g4, g5, rfl, trivial⟩ ?_))
      clear hK7; rintro E ⟨g18, g19, g20, -⟩
      refine cond_t g20 ?_
      refine seq fun K21 hK21 => ?_
      refine reg ?_
      refine s_e (e_call ca25 (args := []) rfl (swakes_spec hT)) rfl ?_
      rintro _ w22 ⟨rfl, hk23⟩
      have ka24 : Kp (fun _ => False) w w22 := (Kp.then0 (Kp.refl _ _) hk23)
      refine s_y (y_assign (v := Vt) rfl) rfl ?_
      refine s_nil (hK21 _ _ (genC [(4, Vt)] ⟨rfl, trivial⟩ ?_))
      clear hK21; rintro E ⟨g25, -⟩
      refine ret (hret _ _ [Vt] ⟨g25, trivial⟩ ?_)
      exact ⟨rfl, ka24⟩
    · refine s_gy (.yes rfl (congrArg Value.bool (decide_eq_false c17))) (y_move (v := (.slice p 0 c)) g5) rfl ?_
      refine s_gy (.yes rfl (congrArg Value.bool (decide_eq_false c17))) (y_lenS so52 rfl) rfl ?_
      refine s_gy (.yes rfl (congrArg Value.bool (decide_eq_false c17))) (y_gtr rfl rfl) rfl ?_
      refine s_y (y_pick_f (congrArg Value.bool (decide_eq_false c17)) (v := (.bool (decide ((150 : Int) < ((0 : Nat) : Int))))) rfl) rfl ?_
      refine s_nil (hK7 _ _ (genC [(0, (Vi max)), (1, (.slice p 0 c)), (25, (.bool (decide ((150 : Int) < ((0 : Nat) : Int)))))] ⟨g4, g5, rfl, trivial⟩ ?_))
      clear hK7; rintro E ⟨g26, g27, g28, -⟩
      refine cond_d g28 (fun c29 => ?_) (fun c29 => ?_)
      · refine seq fun K30 hK30 => ?_
        refine reg ?_
        refine s_e (e_call ca25 (args := []) rfl (swakes_spec hT)) rfl ?_
        rintro _ w31 ⟨rfl, hk32⟩
        have ka33 : Kp (fun _ => False) w w31 := (Kp.then0 (Kp.refl _ _) hk32)
        refine s_y (y_assign (v := Vt) rfl) rfl ?_
        refine s_nil (hK30 _ _ (genC [(4, Vt)] ⟨rfl, trivial⟩ ?_))
        clear hK30; rintro E ⟨g34, -⟩
        refine ret (hret _ _ [Vt] ⟨g34, trivial⟩ ?_)
        exact ⟨rfl, ka33⟩
      · refine skip (hK6 _ _ (genC [(0, (Vi max)), (1, (.slice p 0 c))] ⟨g26, g27, trivial⟩ ?_))
        clear hK6; rintro E ⟨g35, g36, -⟩
        refine seq fun K37 hK37 => ?_
        refine reg ?_
        refine s_y (y_move (v := (Vi max)) g35) rfl ?_
        refine s_e (e_call ca26 (args := [(Vi max)]) rfl (sesnew_spec hm hT)) rfl ?_
        rintro _ w38 ⟨⟨hx40, rfl⟩ | ⟨hx40, g, rfl, hn41⟩, hk39⟩
        · exact absurd ⟨by omega, by omega⟩ hx40
        have ht9 := NewSes.tab hn41 (by omega)
        have ka42 : Kp (fun _ => False) w w38 := (Kp.then0 (Kp.refl _ _) hk39)
        refine s_y (y_move (v := (.tuple #[(Vp g.tb 0), (Vi 0)])) rfl) rfl ?_
        refine s_y (y_ext rfl (v := (Vp g.tb 0)) rfl) rfl ?_
        refine s_y (y_ext rfl (v := (Vi 0)) rfl) rfl ?_
        refine s_y (y_assign (v := (Vp g.tb 0)) rfl) rfl ?_
        refine s_y (y_assign (v := (Vi 0)) rfl) rfl ?_
        refine s_nil (hK37 _ _ (genC [(1, (.slice p 0 c)), (5, (Vp g.tb 0)), (6, (Vi 0))] ⟨g36, rfl, rfl, trivial⟩ ?_))
        clear hK37; rintro E ⟨g43, g44, g45, -⟩
        refine seq fun K46 hK46 => ?_
        refine seq fun K47 hK47 => ?_
        refine reg ?_
        refine s_y (y_move (v := (Vi 0)) g45) rfl ?_
        refine s_y (y_neq rfl rfl) rfl ?_
        refine s_nil (hK47 _ _ (genC [(1, (.slice p 0 c)), (5, (Vp g.tb 0)), (33, Vf)] ⟨g43, g44, rfl, trivial⟩ ?_))
        clear hK47; rintro E ⟨g48, g49, g50, -⟩
        refine cond_f g50 ?_
        refine skip (hK46 _ _ (genC [(1, (.slice p 0 c)), (5, (Vp g.tb 0))] ⟨g48, g49, trivial⟩ ?_))
        clear hK46; rintro E ⟨g51, g52, -⟩
        refine seq fun K53 hK53 => ?_
        refine seq fun K54 hK54 => ?_
        refine reg ?_
        refine s_y (y_assign (v := (Vi 0)) rfl) rfl ?_
        refine s_nil (hK54 _ _ (genC [(1, (.slice p 0 c)), (5, (Vp g.tb 0)), (7, (Vi 0))] ⟨g51, g52, rfl, trivial⟩ ?_))
        clear hK54; rintro E ⟨g55, g56, g57, -⟩
        refine block ?_
        refine loopG (X := Nat) (fun q_ E w_ => Has E [(1, (.slice p 0 c)), (5, (Vp g.tb 0)), (7, (Vi (((q_ : Nat) : Int))))] ∧ Kp (fun _ => False) w38 w_ ∧ (q_ = 0)) (fun q_ => q_) 0 ⟨⟨g55, g56, g57, trivial⟩, Kp.refl _ _, (show 0 = 0 from rfl)⟩ ?_
        rintro i E w61 ⟨⟨g58, g59, g60, -⟩, hk62, hi64⟩ K63 hK63
        replace hi64 : i = 0 := hi64
        have ka65 := (Kp.then0 ka42 hk62)
        refine seq fun K66 hK66 => ?_
        refine seq fun K67 hK67 => ?_
        refine reg ?_
        refine s_y (y_move (v := (Vi (((i : Nat) : Int)))) g60) rfl ?_
        refine s_y (y_move (v := (.slice p 0 c)) g58) rfl ?_
        refine s_y (y_lenS so52 rfl) rfl ?_
        refine s_y (y_lss rfl rfl) rfl ?_
        refine s_nil (hK67 _ _ (genC [(1, (.slice p 0 c)), (5, (Vp g.tb 0)), (7, (Vi (((i : Nat) : Int)))), (37, (.bool (decide ((((i : Nat) : Int) : Int) < ((0 : Nat) : Int)))))] ⟨g58, g59, g60, rfl, trivial⟩ ?_))
        clear hK67; rintro E ⟨g68, g69, g70, g71, -⟩
        refine cond_d g71 (fun c72 => ?_) (fun c72 => ?_)
        · omega
        · refine exit (hK53 _ _ (genC [] trivial ?_))
          clear hK53; rintro E -
          refine seq fun K73 hK73 => ?_
          refine reg ?_
          have hf74 := ((hT.kp hk39 id).kp hk62 id)
          refine s_e (e_call ca25 (args := []) rfl (swakes_spec hf74)) rfl ?_
          rintro _ w75 ⟨rfl, hk76⟩
          have ka77 := (Kp.then0 ka65 hk76)
          refine s_y (y_assign (v := Vt) rfl) rfl ?_
          refine s_nil (hK73 _ _ (genC [(4, Vt)] ⟨rfl, trivial⟩ ?_))
          clear hK73; rintro E ⟨g78, -⟩
          refine ret (hret _ _ [Vt] ⟨g78, trivial⟩ ?_)
          exact ⟨rfl, ka77⟩

theorem sessionParts_spec (max : Int) (hm : -9223372036854775808 ≤ max ∧ max ≤ 9223372036854775807) {ab ao n c : Nat} {acts : List Act} {w : World} (hn : n = acts.length) (hg : ∀ x ∈ acts, x.good) (hel : Elts Act.cs 7 w ab ao acts) (hT : Tb w) : Rets Tryd.prog 5 #[(.int .i64 max), (.slice (some ⟨ab, ao, none⟩) n c)] w fun v w' => v = .bool true ∧ K0 w w' := by
  refine enter Tryd.func5 rfl Tryd.ntmps5 rfl fun Q hret hend E hE => ?_
  have g1 : E 0 = (Vi max) := hE 0
  have g2 : E 1 = (.slice (some ⟨ab, ao, none⟩) n c) := hE 1
  clear hE
  refine seq fun K3 hK3 => ?_
  refine reg ?_
  refine s_y (y_assign (v := Vf) rfl) rfl ?_
  refine s_nil (hK3 _ _ (genC [(0, (Vi max)), (1, (.slice (some ⟨ab, ao, none⟩) n c))] ⟨g1, g2, trivial⟩ ?_))
  clear hK3; rintro E ⟨g4, g5, -⟩
  refine seq fun K6 hK6 => ?_
  refine seq fun K7 hK7 => ?_
  refine reg ?_
  refine s_y (y_move (v := (Vi max)) g4) rfl ?_
  refine s_y (y_lss rfl rfl) rfl ?_
  refine s_y (y_move (v := (.bool (decide ((max : Int) < 1)))) rfl) rfl ?_
  by_cases c8 : (max : Int) < 1
  · refine s_no (.no rfl (c := true) (congrArg Value.bool (decide_eq_true c8)) rfl) rfl ?_
    refine s_no (.no rfl (c := true) (congrArg Value.bool (decide_eq_true c8)) rfl) rfl ?_
    refine s_y (y_pick_t (congrArg Value.bool (decide_eq_true c8)) (v := Vt) rfl) rfl ?_
    refine s_y (y_move (v := Vt) rfl) rfl ?_
    refine s_no (.no rfl (c := true) rfl rfl) rfl ?_
    refine s_no (.no rfl (c := true) rfl rfl) rfl ?_
    refine s_no (.no rfl (c := true) rfl rfl) rfl ?_
    refine s_y (y_pick_t rfl (v := Vt) rfl) rfl ?_
    refine s_nil (hK7 _ _ (genC [(0, (Vi max)), (1, (.slice (some ⟨ab, ao, none⟩) n c)), (25, Vt)] ⟨g4, g5, rfl, trivial⟩ ?_))
    clear hK7; rintro E ⟨g9, g10, g11, -⟩
    refine cond_t g11 ?_
    refine seq fun K12 hK12 => ?_
    refine reg ?_
    refine s_e (e_call ca25 (args := []) rfl (swakes_spec hT)) rfl ?_
    rintro _ w13 ⟨rfl, hk14⟩
    have ka15 : Kp (fun _ => False) w w13 := (Kp.then0 (Kp.refl _ _) hk14)
    refine s_y (y_assign (v := Vt) rfl) rfl ?_
    refine s_nil (hK12 _ _ (genC [(4, Vt)] ⟨rfl, trivial⟩ ?_))
    clear hK12; rintro E ⟨g16, -⟩
    refine ret (hret _ _ [Vt] ⟨g16, trivial⟩ ?_)
    exact ⟨rfl, ka15⟩
  · refine s_gy (.yes rfl (congrArg Value.bool (decide_eq_false c8))) (y_move (v := (Vi max)) g4) rfl ?_
    refine s_gy (.yes rfl (congrArg Value.bool (decide_eq_false c8))) (y_gtr rfl rfl) rfl ?_
    refine s_y (y_pick_f (congrArg Value.bool (decide_eq_false c8)) (v := (.bool (decide ((100 : Int) < max)))) rfl) rfl ?_
    refine s_y (y_move (v := (.bool (decide ((100 : Int) < max)))) rfl) rfl ?_
    by_cases c17 : (100 : Int) < max
    · refine s_no (.no rfl (c := true) (congrArg Value.bool (decide_eq_true c17)) rfl) rfl ?_
      refine s_no (.no rfl (c := true) (congrArg Value.bool (decide_eq_true c17)) rfl) rfl ?_
      refine s_no (.no rfl (c := true) (congrArg Value.bool (decide_eq_true c17)) rfl) rfl ?_
      refine s_y (y_pick_t (congrArg Value.bool (decide_eq_true c17)) (v := Vt) rfl) rfl ?_
      refine s_nil (hK7 _ _ (genC [(0, (Vi max)), (1, (.slice (some ⟨ab, ao, none⟩) n c)), (25, Vt)] ⟨g4, g5, rfl, trivial⟩ ?_))
      clear hK7; rintro E ⟨g18, g19, g20, -⟩
      refine cond_t g20 ?_
      refine seq fun K21 hK21 => ?_
      refine reg ?_
      refine s_e (e_call ca25 (args := []) rfl (swakes_spec hT)) rfl ?_
      rintro _ w22 ⟨rfl, hk23⟩
      have ka24 : Kp (fun _ => False) w w22 := (Kp.then0 (Kp.refl _ _) hk23)
      refine s_y (y_assign (v := Vt) rfl) rfl ?_
      refine s_nil (hK21 _ _ (genC [(4, Vt)] ⟨rfl, trivial⟩ ?_))
      clear hK21; rintro E ⟨g25, -⟩
      refine ret (hret _ _ [Vt] ⟨g25, trivial⟩ ?_)
      exact ⟨rfl, ka24⟩
    · refine s_gy (.yes rfl (congrArg Value.bool (decide_eq_false c17))) (y_move (v := (.slice (some ⟨ab, ao, none⟩) n c)) g5) rfl ?_
      refine s_gy (.yes rfl (congrArg Value.bool (decide_eq_false c17))) (y_lenS so52 rfl) rfl ?_
      refine s_gy (.yes rfl (congrArg Value.bool (decide_eq_false c17))) (y_gtr rfl rfl) rfl ?_
      refine s_y (y_pick_f (congrArg Value.bool (decide_eq_false c17)) (v := (.bool (decide ((150 : Int) < ((n : Nat) : Int))))) rfl) rfl ?_
      refine s_nil (hK7 _ _ (genC [(0, (Vi max)), (1, (.slice (some ⟨ab, ao, none⟩) n c)), (25, (.bool (decide ((150 : Int) < ((n : Nat) : Int)))))] ⟨g4, g5, rfl, trivial⟩ ?_))
      clear hK7; rintro E ⟨g26, g27, g28, -⟩
      refine cond_d g28 (fun c29 => ?_) (fun c29 => ?_)
      · refine seq fun K30 hK30 => ?_
        refine reg ?_
        refine s_e (e_call ca25 (args := []) rfl (swakes_spec hT)) rfl ?_
        rintro _ w31 ⟨rfl, hk32⟩
        have ka33 : Kp (fun _ => False) w w31 := (Kp.then0 (Kp.refl _ _) hk32)
        refine s_y (y_assign (v := Vt) rfl) rfl ?_
        refine s_nil (hK30 _ _ (genC [(4, Vt)] ⟨rfl, trivial⟩ ?_))
        clear hK30; rintro E ⟨g34, -⟩
        refine ret (hret _ _ [Vt] ⟨g34, trivial⟩ ?_)
        exact ⟨rfl, ka33⟩
      · refine skip (hK6 _ _ (genC [(0, (Vi max)), (1, (.slice (some ⟨ab, ao, none⟩) n c))] ⟨g26, g27, trivial⟩ ?_))
        clear hK6; rintro E ⟨g35, g36, -⟩
        refine seq fun K37 hK37 => ?_
        refine reg ?_
        refine s_y (y_move (v := (Vi max)) g35) rfl ?_
        refine s_e (e_call ca26 (args := [(Vi max)]) rfl (sesnew_spec hm hT)) rfl ?_
        rintro _ w38 ⟨⟨hx40, rfl⟩ | ⟨hx40, g, rfl, hn41⟩, hk39⟩
        · exact absurd ⟨by omega, by omega⟩ hx40
        have ht9 := NewSes.tab hn41 (by omega)
        have ka42 : Kp (fun _ => False) w w38 := (Kp.then0 (Kp.refl _ _) hk39)
        refine s_y (y_move (v := (.tuple #[(Vp g.tb 0), (Vi 0)])) rfl) rfl ?_
        refine s_y (y_ext rfl (v := (Vp g.tb 0)) rfl) rfl ?_
        refine s_y (y_ext rfl (v := (Vi 0)) rfl) rfl ?_
        refine s_y (y_assign (v := (Vp g.tb 0)) rfl) rfl ?_
        refine s_y (y_assign (v := (Vi 0)) rfl) rfl ?_
        refine s_nil (hK37 _ _ (genC [(1, (.slice (some ⟨ab, ao, none⟩) n c)), (5, (Vp g.tb 0)), (6, (Vi 0))] ⟨g36, rfl, rfl, trivial⟩ ?_))
        clear hK37; rintro E ⟨g43, g44, g45, -⟩
        refine seq fun K46 hK46 => ?_
        refine seq fun K47 hK47 => ?_
        refine reg ?_
        refine s_y (y_move (v := (Vi 0)) g45) rfl ?_
        refine s_y (y_neq rfl rfl) rfl ?_
        refine s_nil (hK47 _ _ (genC [(1, (.slice (some ⟨ab, ao, none⟩) n c)), (5, (Vp g.tb 0)), (33, Vf)] ⟨g43, g44, rfl, trivial⟩ ?_))
        clear hK47; rintro E ⟨g48, g49, g50, -⟩
        refine cond_f g50 ?_
        refine skip (hK46 _ _ (genC [(1, (.slice (some ⟨ab, ao, none⟩) n c)), (5, (Vp g.tb 0))] ⟨g48, g49, trivial⟩ ?_))
        clear hK46; rintro E ⟨g51, g52, -⟩
        refine seq fun K53 hK53 => ?_
        refine seq fun K54 hK54 => ?_
        refine reg ?_
        refine s_y (y_assign (v := (Vi 0)) rfl) rfl ?_
        refine s_nil (hK54 _ _ (genC [(1, (.slice (some ⟨ab, ao, none⟩) n c)), (5, (Vp g.tb 0)), (7, (Vi 0))] ⟨g51, g52, rfl, trivial⟩ ?_))
        clear hK54; rintro E ⟨g55, g56, g57, -⟩
        refine block ?_
        refine loopG (X := Nat × Sx × SesS) (fun q_ E w_ => Has E [(1, (.slice (some ⟨ab, ao, none⟩) n c)), (5, (Vp g.tb 0)), (7, (Vi (((q_.1 : Nat) : Int))))] ∧ Kp (fun k => w.heap.size ≤ k) w38 w_ ∧ (q_.1 ≤ acts.length) ∧ (STab max g ((q_.1 : Nat) : Int) w.heap.size q_.2.1 q_.2.2 w_) ∧ (∀ x ∈ (q_.2.1).L, B4 x.binding)) (fun q_ => (acts.length - q_.1)) (0, (⟨0, []⟩ : Sx), ⟨0, [], ⟨none, [], []⟩, []⟩) ⟨⟨g55, g56, g57, trivial⟩, Kp.refl _ _, (show 0 ≤ acts.length from (Nat.zero_le _)), (show STab max g ((0 : Nat) : Int) w.heap.size (⟨0, []⟩ : Sx) (⟨0, [], ⟨none, [], []⟩, []⟩) w38 from ht9), (show ∀ x ∈ ((⟨0, []⟩ : Sx)).L, B4 x.binding from (fun _ h9 => by cases h9))⟩ ?_
        rintro ⟨i, a, s⟩ E w61 ⟨⟨g58, g59, g60, -⟩, hk62, hi64, hi65, hi66⟩ K63 hK63
        replace g58 : E 1 = (.slice (some ⟨ab, ao, none⟩) n c) := g58
        replace g59 : E 5 = (Vp g.tb 0) := g59
        replace g60 : E 7 = (Vi (((i : Nat) : Int))) := g60
        replace hi64 : i ≤ acts.length := hi64
        replace hi65 : STab max g ((i : Nat) : Int) w.heap.size a s w61 := hi65
        replace hi66 : ∀ x ∈ (a).L, B4 x.binding := hi66
        have ka67 := (Kp.fresh ka42 hk62 fun _ e => nl (Nat.le_refl _) e)
        have hi9 := hi64; have hb9 := hi66
        refine seq fun K68 hK68 => ?_
        refine seq fun K69 hK69 => ?_
        refine reg ?_
        refine s_y (y_move (v := (Vi (((i : Nat) : Int)))) g60) rfl ?_
        refine s_y (y_move (v := (.slice (some ⟨ab, ao, none⟩) n c)) g58) rfl ?_
        refine s_y (y_lenS so52 rfl) rfl ?_
        refine s_y (y_lss rfl rfl) rfl ?_
        refine s_nil (hK69 _ _ (genC [(1, (.slice (some ⟨ab, ao, none⟩) n c)), (5, (Vp g.tb 0)), (7, (Vi (((i : Nat) : Int)))), (37, (.bool (decide ((((i : Nat) : Int) : Int) < ((n : Nat) : Int)))))] ⟨g58, g59, g60, rfl, trivial⟩ ?_))
        clear hK69; rintro E ⟨g70, g71, g72, g73, -⟩
        refine cond_d g73 (fun c74 => ?_) (fun c74 => ?_)
        · obtain ⟨x9, hx9⟩ : ∃ x, acts[i]? = some x := ⟨_, List.getElem?_eq_getElem (by omega)⟩
          obtain ⟨⟨hd1, hd2⟩, ⟨hd3, hd4⟩, ⟨hd5, hd6⟩, ⟨hd7, hd8⟩, ⟨hd9, hda⟩, ⟨hdb, hdc⟩⟩ := hg x9 (List.mem_of_getElem? hx9); have htm9 := tmod4 x9.b
          refine skip (hK68 _ _ (genC [(1, (.slice (some ⟨ab, ao, none⟩) n c)), (5, (Vp g.tb 0)), (7, (Vi (((i : Nat) : Int))))] ⟨g70, g71, g72, trivial⟩ ?_))
          clear hK68; rintro E ⟨g75, g76, g77, -⟩
          refine seq fun K78 hK78 => ?_
          refine block ?_
          refine seq fun K79 hK79 => ?_
          refine reg ?_
          refine s_y (y_move (v := (.slice (some ⟨ab, ao, none⟩) n c)) g75) rfl ?_
          refine s_y (y_move (v := (Vi (((i : Nat) : Int)))) g77) rfl ?_
          refine s_y (y_idx so52 sz57 rfl (i := i) rfl (by omega)) rfl ?_
          have hf80 := ((hel.kp hk39 id).kp hk62 (Nat.not_le.2 (hel.lt)))
          refine s_y (y_load (v := (.agg #[.int .u8 (x9.do_), u8 x9.a, .int .i64 (x9.b), .int .i64 (x9.port), .int .i64 (x9.n), .int .i64 (x9.s), .int .i64 (x9.d)])) rfl (rd_el ag57 (EltsOn.now hf80) hx9 (vs := [(.int .u8 (x9.do_)), (u8 x9.a), (Vi (x9.b)), (Vi (x9.port)), (Vi (x9.n)), (Vi (x9.s)), (Vi (x9.d))]) rfl)) rfl ?_
          refine s_e (e_alloc ze57) rfl ?_
          rintro _ w81 ⟨rfl, hb82, hk83⟩
          have ka84 := (Kp.then0 ka67 hk83)
          refine s_e0 (e_storeV (cs' := #[(.int .u8 (x9.do_)), (u8 x9.a), (Vi (x9.b)), (Vi (x9.port)), (Vi (x9.n)), (Vi (x9.s)), (Vi (x9.d))]) [(.int .u8 (x9.do_)), (u8 x9.a), (Vi (x9.b)), (Vi (x9.port)), (Vi (x9.n)), (Vi (x9.s)), (Vi (x9.d))] rfl (v := (.agg #[.int .u8 (x9.do_), u8 x9.a, .int .i64 (x9.b), .int .i64 (x9.port), .int .i64 (x9.n), .int .i64 (x9.s), .int .i64 (x9.d)])) rfl rfl sz57 hb82 rfl rfl rfl) ?_
          rintro _ w85 ⟨hb86, hk87⟩
          have ka88 := (Kp.fresh ka84 hk87 fun _ e => nl (nl (nl hk39.size hk62.size) (Nat.le_refl _)) (Nat.le_of_eq e.symm))
          refine s_nil (hK79 _ _ (genC [(1, (.slice (some ⟨ab, ao, none⟩) n c)), (5, (Vp g.tb 0)), (7, (Vi (((i : Nat) : Int)))), (8, (Vp w61.heap.size 0))] ⟨g75, g76, g77, rfl, trivial⟩ ?_))
          clear hK79; rintro E ⟨g89, g90, g91, g92, -⟩
          refine seq fun K93 hK93 => ?_
          refine reg ?_
          refine s_y (y_fld fo57_2 g92) rfl ?_
          refine s_y (y_load (v := (Vi (x9.b))) rfl (rd_sc sc3 (On.now hb86) rfl)) rfl ?_
          refine s_y (y_remw rfl rfl (by decide)) rfl ?_
          refine s_y (y_assign (v := (Vi ((x9.b : Int).tmod 4))) rfl) rfl ?_
          refine s_nil (hK93 _ _ (genC [(1, (.slice (some ⟨ab, ao, none⟩) n c)), (5, (Vp g.tb 0)), (7, (Vi (((i : Nat) : Int)))), (8, (Vp w61.heap.size 0)), (9, (Vi ((x9.b : Int).tmod 4)))] ⟨g89, g90, g91, g92, rfl, trivial⟩ ?_))
          clear hK93; rintro E ⟨g94, g95, g96, g97, g98, -⟩
          refine seq fun K99 hK99 => ?_
          refine seq fun K100 hK100 => ?_
          refine reg ?_
          refine s_y (y_move (v := (Vi ((x9.b : Int).tmod 4))) g98) rfl ?_
          refine s_y (y_lss rfl rfl) rfl ?_
          refine s_nil (hK100 _ _ (genC [(1, (.slice (some ⟨ab, ao, none⟩) n c)), (5, (Vp g.tb 0)), (7, (Vi (((i : Nat) : Int)))), (8, (Vp w61.heap.size 0)), (9, (Vi ((x9.b : Int).tmod 4))), (48, (.bool (decide (((x9.b : Int).tmod 4 : Int) < 0))))] ⟨g94, g95, g96, g97, g98, rfl, trivial⟩ ?_))
          clear hK100; rintro E ⟨g101, g102, g103, g104, g105, g106, -⟩
          refine cond_d g106 (fun c107 => ?_) (fun c107 => ?_)
          · refine reg ?_
            refine s_y (y_move (v := (Vi ((x9.b : Int).tmod 4))) g105) rfl ?_
            refine s_y (y_neg rfl (by omega)) rfl ?_
            refine s_y (y_assign (v := (Vi (-((x9.b : Int).tmod 4)))) rfl) rfl ?_
            refine s_nil (hK99 _ _ (genC [(1, (.slice (some ⟨ab, ao, none⟩) n c)), (5, (Vp g.tb 0)), (7, (Vi (((i : Nat) : Int)))), (8, (Vp w61.heap.size 0)), (9, (Vi (-((x9.b : Int).tmod 4))))] ⟨g101, g102, g103, g104, rfl, trivial⟩ ?_))
            clear hK99; rintro E ⟨g108, g109, g110, g111, g112, -⟩
            refine seqJ (fun E w_ => Has E [(1, (.slice (some ⟨ab, ao, none⟩) n c)), (5, (Vp g.tb 0)), (7, (Vi (((i : Nat) : Int)))), (8, (Vp w61.heap.size 0))] ∧ Kp (fun k => w.heap.size ≤ k) w61 w_ ∧ Blk w_ w61.heap.size x9.cs.toArray 57 ∧ ∃ a2 s2, STab max g (((i : Nat) : Int) + 1) w.heap.size a2 s2 w_ ∧ (∀ x ∈ a2.L, B4 x.binding) ∧ w61.heap.size ∉ sfp g s2) (fun K114 hK114 => ?_) ?_
            · refine seq fun K115 hK115 => ?_
              refine reg ?_
              refine s_y (y_fld fo57_0 g111) rfl ?_
              refine s_y (y_load (v := (.int .u8 (x9.do_))) rfl (rd_sc sc5 (On.now hb86) rfl)) rfl ?_
              refine s_nil (hK115 _ _ (genC [(1, (.slice (some ⟨ab, ao, none⟩) n c)), (5, (Vp g.tb 0)), (7, (Vi (((i : Nat) : Int)))), (8, (Vp w61.heap.size 0)), (9, (Vi (-((x9.b : Int).tmod 4)))), (52, (.int .u8 (x9.do_)))] ⟨g108, g109, g110, g111, g112, rfl, trivial⟩ ?_))
              clear hK115; rintro E ⟨g116, g117, g118, g119, g120, g121, -⟩
              refine block ?_
              refine seq fun K122 hK122 => ?_
              refine reg ?_
              refine s_y (y_eql g121 rfl) rfl ?_
              refine s_y (y_assign (v := (.bool (decide ((x9.do_ : Int) = 0)))) rfl) rfl ?_
              refine s_nil (hK122 _ _ (genC [(1, (.slice (some ⟨ab, ao, none⟩) n c)), (5, (Vp g.tb 0)), (7, (Vi (((i : Nat) : Int)))), (8, (Vp w61.heap.size 0)), (9, (Vi (-((x9.b : Int).tmod 4)))), (52, (.int .u8 (x9.do_))), (53, (.bool (decide ((x9.do_ : Int) = 0))))] ⟨g116, g117, g118, g119, g120, g121, rfl, trivial⟩ ?_))
              clear hK122; rintro E ⟨g123, g124, g125, g126, g127, g128, g129, -⟩
              refine cond_d g129 (fun c130 => ?_) (fun c130 => ?_)
              · refine regD (fun k => k ∈ sfp g s) (.take 0 (.take 1 (.take 2 (.take 3 (.take 4 (.take 5 (.take 7 (.take 8 (.take 9 (.take 10 (.one 6 (.one 11 .done)))))))))))) mixed (by kernel_rfl) fun w131 hh132 hk133 => ?_
                have ka134 := (Kp.then0 ka88 hk133)
                refine o_y rfl (y_move (v := (Vp g.tb 0)) g124) ?_
                refine o_y rfl (y_move (v := (Vi (-((x9.b : Int).tmod 4)))) g127) ?_
                refine o_y rfl (y_fld fo57_1 g126) ?_
                have hni135 : w61.heap.size ∉ sfp g s := (fun e => Nat.lt_irrefl _ (nt (STab.lt hi65 _ e) (nl (Nat.le_refl _) (Nat.le_refl _))))
                refine o_y rfl (y_load (v := (u8 x9.a)) rfl (rd_sc sc5 (On.kp (hk133.get0 hb86) hni135) rfl)) ?_
                refine o_y rfl (y_fld fo57_3 g126) ?_
                refine o_y rfl (y_load (v := (Vi (x9.port))) rfl (rd_sc sc3 (On.kp (hk133.get0 hb86) hni135) rfl)) ?_
                refine o_y rfl (y_fld fo57_5 g126) ?_
                refine o_y rfl (y_load (v := (Vi (x9.s))) rfl (rd_sc sc3 (On.kp (hk133.get0 hb86) hni135) rfl)) ?_
                refine o_y rfl (y_fld fo57_6 g126) ?_
                refine o_y rfl (y_load (v := (Vi (x9.d))) rfl (rd_sc sc3 (On.kp (hk133.get0 hb86) hni135) rfl)) ?_
                refine o_one ?_
                refine c_e rfl (e_call ca28 (args := [(u8 x9.a), (Vi (x9.port))]) rfl (peerT_spec x9.a x9.port _)) ?_
                rintro _ w136 ⟨rfl, hk137⟩
                have ka138 := (Kp.then0 ka134 hk137)
                have ks139 : Kp (fun k => k ∈ sfp g s) w131 w136 := (Kp.then0 (Kp.refl _ _) hk137)
                refine ⟨ks139, ?_⟩
                refine o_one ?_
                have hf140 := (STab.k0 (STab.k0 (STab.kp (STab.k0 hi65 hk83) hk87 (fun b hb => (fun e => hni135 (e ▸ hb))) (Nat.ne_of_lt (nt (nt (hT.lt) (nl hk39.size hk62.size)) (Nat.le_refl _)))) hk133) hk137)
                refine c_e rfl (e_call ca27 (args := [(Vp g.tb 0), (Vi (-((x9.b : Int).tmod 4))), (.agg #[u8 9, u8 0, u8 0, u8 x9.a, .int .i64 (x9.port)]), (Vi (x9.s)), (Vi (x9.d))]) rfl (add_sx hf140 ⟨by omega, by omega⟩ (-((x9.b : Int).tmod 4)) ⟨⟨9, 0, 0, x9.a⟩, x9.port⟩ x9.s x9.d (by omega) ⟨hd5, hd6⟩ ⟨hdb, hdc⟩)) ?_
                rintro v141 w142 ⟨s143, -, hn144⟩
                have ka145 := (Kp.fresh ka138 (SNx.kp hn144) fun _ e => nl (Nat.le_refl _) (STab.ge hi65 _ e))
                have ks146 := (Kp.trans ks139 (SNx.kp hn144) fun _ _ e => e)
                refine ⟨ks146, ?_⟩
                have kc147 : Kp (fun k => w.heap.size ≤ k) w61 w81 := (Kp.then0 (Kp.refl _ _) hk83)
                have kc148 : Kp (fun k => w.heap.size ≤ k) w61 w85 := (Kp.trans kc147 hk87 fun _ _ e => (fun e => nl (nl (nl hk39.size hk62.size) (Nat.le_refl _)) (Nat.le_of_eq e.symm)) e)
                have kc149 : Kp (fun k => w.heap.size ≤ k) w61 w131 := (Kp.then0 kc148 hk133)
                have kc150 : Kp (fun k => w.heap.size ≤ k) w61 w136 := (Kp.then0 kc149 hk137)
                have kc151 : Kp (fun k => w.heap.size ≤ k) w61 w142 := (Kp.trans kc150 (SNx.kp hn144) fun _ _ e => STab.ge hi65 _ e)
                have hni152 : w61.heap.size ∉ sfp g s143 := (SNx.notin hn144 hni135 (nt (lt_of_get hb86) (nl hk133.size hk137.size)))
                have hb153 := ((SNx.kp hn144).get (hk137.get0 (hk133.get0 hb86)) hni135)
                exact o_done (hK114 _ _ ⟨⟨g123, g124, g125, g126, trivial⟩, kc151, hb153, _, _, (SNx.tab hn144), (addX_bnd hb9 (by unfold B4; omega)), hni152⟩)
              · refine seq fun K154 hK154 => ?_
                refine seq fun K155 hK155 => ?_
                refine reg ?_
                refine s_y (y_eql g128 rfl) rfl ?_
                refine s_y (y_assign (v := (.bool (decide ((x9.do_ : Int) = 2)))) rfl) rfl ?_
                refine s_nil (hK155 _ _ (genC [(1, (.slice (some ⟨ab, ao, none⟩) n c)), (5, (Vp g.tb 0)), (7, (Vi (((i : Nat) : Int)))), (8, (Vp w61.heap.size 0)), (52, (.int .u8 (x9.do_))), (67, (.bool (decide ((x9.do_ : Int) = 2))))] ⟨g123, g124, g125, g126, g128, rfl, trivial⟩ ?_))
                clear hK155; rintro E ⟨g156, g157, g158, g159, g160, g161, -⟩
                refine cond_d g161 (fun c162 => ?_) (fun c162 => ?_)
                · refine skip (hK154 _ _ (genC [(1, (.slice (some ⟨ab, ao, none⟩) n c)), (5, (Vp g.tb 0)), (7, (Vi (((i : Nat) : Int)))), (8, (Vp w61.heap.size 0)), (52, (.int .u8 (x9.do_))), (67, Vt)] ⟨g156, g157, g158, g159, g160, (Eq.trans g161 (congrArg Value.bool (decide_eq_true c162))), trivial⟩ ?_))
                  clear hK154; rintro E ⟨g163, g164, g165, g166, g167, g168, -⟩
                  refine cond_t g168 ?_
                  refine reg ?_
                  refine s_y (y_move (v := (Vp g.tb 0)) g164) rfl ?_
                  refine s_y (y_fld fo57_4 g166) rfl ?_
                  refine s_y (y_load (v := (Vi (x9.n))) rfl (rd_sc sc3 (On.now hb86) rfl)) rfl ?_
                  have hni169 : w61.heap.size ∉ sfp g s := (fun e => Nat.lt_irrefl _ (nt (STab.lt hi65 _ e) (nl (Nat.le_refl _) (Nat.le_refl _))))
                  have hf170 := (STab.kp (STab.k0 hi65 hk83) hk87 (fun b hb => (fun e => hni169 (e ▸ hb))) (Nat.ne_of_lt (nt (nt (hT.lt) (nl hk39.size hk62.size)) (Nat.le_refl _))))
                  refine s_e (e_call ca29 (args := [(Vp g.tb 0), (Vi (x9.n))]) rfl (drop_sx hf170 x9.n ⟨hd7, hd8⟩)) rfl ?_
                  rintro v171 w172 ⟨s173, -, hn174⟩
                  have ka175 := (Kp.fresh ka88 (SNx.kp hn174) fun _ e => nl (Nat.le_refl _) (STab.ge hi65 _ e))
                  have kc176 : Kp (fun k => w.heap.size ≤ k) w61 w81 := (Kp.then0 (Kp.refl _ _) hk83)
                  have kc177 : Kp (fun k => w.heap.size ≤ k) w61 w85 := (Kp.trans kc176 hk87 fun _ _ e => (fun e => nl (nl (nl hk39.size hk62.size) (Nat.le_refl _)) (Nat.le_of_eq e.symm)) e)
                  have kc178 : Kp (fun k => w.heap.size ≤ k) w61 w172 := (Kp.trans kc177 (SNx.kp hn174) fun _ _ e => STab.ge hi65 _ e)
                  have hni179 : w61.heap.size ∉ sfp g s173 := (SNx.notin hn174 hni169 (lt_of_get hb86))
                  have hb180 := ((SNx.kp hn174).get hb86 hni169)
                  exact s_nil (hK114 _ _ ⟨⟨g163, g164, g165, g166, trivial⟩, kc178, hb180, _, _, (SNx.tab hn174), (dropX_bnd hb9), hni179⟩)
                · refine reg ?_
                  refine s_y (y_eql g160 rfl) rfl ?_
                  refine s_y (y_assign (v := (.bool (decide ((x9.do_ : Int) = 5)))) rfl) rfl ?_
                  refine s_nil (hK154 _ _ (genC [(1, (.slice (some ⟨ab, ao, none⟩) n c)), (5, (Vp g.tb 0)), (7, (Vi (((i : Nat) : Int)))), (8, (Vp w61.heap.size 0)), (52, (.int .u8 (x9.do_))), (67, (.bool (decide ((x9.do_ : Int) = 5))))] ⟨g156, g157, g158, g159, g160, rfl, trivial⟩ ?_))
                  clear hK154; rintro E ⟨g181, g182, g183, g184, g185, g186, -⟩
                  refine cond_d g186 (fun c187 => ?_) (fun c187 => ?_)
                  · refine reg ?_
                    refine s_y (y_move (v := (Vp g.tb 0)) g182) rfl ?_
                    refine s_y (y_fld fo57_4 g184) rfl ?_
                    refine s_y (y_load (v := (Vi (x9.n))) rfl (rd_sc sc3 (On.now hb86) rfl)) rfl ?_
                    have hni188 : w61.heap.size ∉ sfp g s := (fun e => Nat.lt_irrefl _ (nt (STab.lt hi65 _ e) (nl (Nat.le_refl _) (Nat.le_refl _))))
                    have hf189 := (STab.kp (STab.k0 hi65 hk83) hk87 (fun b hb => (fun e => hni188 (e ▸ hb))) (Nat.ne_of_lt (nt (nt (hT.lt) (nl hk39.size hk62.size)) (Nat.le_refl _))))
                    refine s_e (e_call ca29 (args := [(Vp g.tb 0), (Vi (x9.n))]) rfl (drop_sx hf189 x9.n ⟨hd7, hd8⟩)) rfl ?_
                    rintro v190 w191 ⟨s192, -, hn193⟩
                    have ka194 := (Kp.fresh ka88 (SNx.kp hn193) fun _ e => nl (Nat.le_refl _) (STab.ge hi65 _ e))
                    have kc195 : Kp (fun k => w.heap.size ≤ k) w61 w81 := (Kp.then0 (Kp.refl _ _) hk83)
                    have kc196 : Kp (fun k => w.heap.size ≤ k) w61 w85 := (Kp.trans kc195 hk87 fun _ _ e => (fun e => nl (nl (nl hk39.size hk62.size) (Nat.le_refl _)) (Nat.le_of_eq e.symm)) e)
                    have kc197 : Kp (fun k => w.heap.size ≤ k) w61 w191 := (Kp.trans kc196 (SNx.kp hn193) fun _ _ e => STab.ge hi65 _ e)
                    have hni198 : w61.heap.size ∉ sfp g s192 := (SNx.notin hn193 hni188 (lt_of_get hb86))
                    have hb199 := ((SNx.kp hn193).get hb86 hni188)
                    exact s_nil (hK114 _ _ ⟨⟨g181, g182, g183, g184, trivial⟩, kc197, hb199, _, _, (SNx.tab hn193), (dropX_bnd hb9), hni198⟩)
                  · refine seq fun K200 hK200 => ?_
                    refine reg ?_
                    refine s_y (y_eql g185 rfl) rfl ?_
                    refine s_y (y_assign (v := (.bool (decide ((x9.do_ : Int) = 3)))) rfl) rfl ?_
                    refine s_nil (hK200 _ _ (genC [(1, (.slice (some ⟨ab, ao, none⟩) n c)), (5, (Vp g.tb 0)), (7, (Vi (((i : Nat) : Int)))), (8, (Vp w61.heap.size 0)), (74, (.bool (decide ((x9.do_ : Int) = 3))))] ⟨g181, g182, g183, g184, rfl, trivial⟩ ?_))
                    clear hK200; rintro E ⟨g201, g202, g203, g204, g205, -⟩
                    refine cond_d g205 (fun c206 => ?_) (fun c206 => ?_)
                    · refine reg ?_
                      refine s_y (y_move (v := (Vp g.tb 0)) g202) rfl ?_
                      refine s_y (y_fld fo57_6 g204) rfl ?_
                      refine s_y (y_load (v := (Vi (x9.d))) rfl (rd_sc sc3 (On.now hb86) rfl)) rfl ?_
                      have hni207 : w61.heap.size ∉ sfp g s := (fun e => Nat.lt_irrefl _ (nt (STab.lt hi65 _ e) (nl (Nat.le_refl _) (Nat.le_refl _))))
                      have hf208 := (STab.kp (STab.k0 hi65 hk83) hk87 (fun b hb => (fun e => hni207 (e ▸ hb))) (Nat.ne_of_lt (nt (nt (hT.lt) (nl hk39.size hk62.size)) (Nat.le_refl _))))
                      refine s_e (e_call ca30 (args := [(Vp g.tb 0), (Vi (x9.d))]) rfl (pop_sx hf208 x9.d)) rfl ?_
                      rintro v209 w210 ⟨s211, _, -, -, -, hn212⟩
                      have ka213 := (Kp.fresh ka88 (SNx.kp hn212) fun _ e => nl (Nat.le_refl _) (STab.ge hi65 _ e))
                      have kc214 : Kp (fun k => w.heap.size ≤ k) w61 w81 := (Kp.then0 (Kp.refl _ _) hk83)
                      have kc215 : Kp (fun k => w.heap.size ≤ k) w61 w85 := (Kp.trans kc214 hk87 fun _ _ e => (fun e => nl (nl (nl hk39.size hk62.size) (Nat.le_refl _)) (Nat.le_of_eq e.symm)) e)
                      have kc216 : Kp (fun k => w.heap.size ≤ k) w61 w210 := (Kp.trans kc215 (SNx.kp hn212) fun _ _ e => STab.ge hi65 _ e)
                      have hni217 : w61.heap.size ∉ sfp g s211 := (SNx.notin hn212 hni207 (lt_of_get hb86))
                      have hb218 := ((SNx.kp hn212).get hb86 hni207)
                      exact s_nil (hK114 _ _ ⟨⟨g201, g202, g203, g204, trivial⟩, kc216, hb218, _, _, (SNx.tab hn212), (popX_bnd hb9), hni217⟩)
                    · have kc219 : Kp (fun k => w.heap.size ≤ k) w61 w81 := (Kp.then0 (Kp.refl _ _) hk83)
                      have kc220 : Kp (fun k => w.heap.size ≤ k) w61 w85 := (Kp.trans kc219 hk87 fun _ _ e => (fun e => nl (nl (nl hk39.size hk62.size) (Nat.le_refl _)) (Nat.le_of_eq e.symm)) e)
                      have hni221 : w61.heap.size ∉ sfp g s := (fun e => Nat.lt_irrefl _ (nt (STab.lt hi65 _ e) (nl (Nat.le_refl _) (Nat.le_refl _))))
                      have hf222 := (STab.kp (STab.k0 hi65 hk83) hk87 (fun b hb => (fun e => hni221 (e ▸ hb))) (Nat.ne_of_lt (nt (nt (hT.lt) (nl hk39.size hk62.size)) (Nat.le_refl _))))
                      exact skip (hK114 _ _ ⟨⟨g201, g202, g203, g204, trivial⟩, kc220, hb86, _, _, (hf222.mono (by omega)), hb9, hni221⟩)
            · rintro E w227 ⟨⟨g223, g224, g225, g226, -⟩, hk228, hbx9, a2, s2, ht2, hb2, hni2⟩
              have ka229 := (Kp.fresh ka67 hk228 fun _ e => nl (Nat.le_refl _) e)
              refine seq fun K230 hK230 => ?_
              refine reg ?_
              refine s_y (y_assign (v := (Vi 0)) rfl) rfl ?_
              refine s_nil (hK230 _ _ (genC [(1, (.slice (some ⟨ab, ao, none⟩) n c)), (5, (Vp g.tb 0)), (7, (Vi (((i : Nat) : Int)))), (8, (Vp w61.heap.size 0)), (10, (Vi 0))] ⟨g223, g224, g225, g226, rfl, trivial⟩ ?_))
              clear hK230; rintro E ⟨g231, g232, g233, g234, g235, -⟩
              refine seq fun K236 hK236 => ?_
              refine seq fun K237 hK237 => ?_
              refine reg ?_
              refine s_y (y_assign (v := (Vi 0)) rfl) rfl ?_
              refine s_nil (hK237 _ _ (genC [(1, (.slice (some ⟨ab, ao, none⟩) n c)), (5, (Vp g.tb 0)), (7, (Vi (((i : Nat) : Int)))), (8, (Vp w61.heap.size 0)), (10, (Vi 0)), (11, (Vi 0))] ⟨g231, g232, g233, g234, g235, rfl, trivial⟩ ?_))
              clear hK237; rintro E ⟨g238, g239, g240, g241, g242, g243, -⟩
              refine block ?_
              have hq7 := STab.smallL ht2
              refine loopG (X := Nat) (fun q_ E w_ => Has E [(1, (.slice (some ⟨ab, ao, none⟩) n c)), (5, (Vp g.tb 0)), (7, (Vi (((i : Nat) : Int)))), (8, (Vp w61.heap.size 0)), (10, (Vi ((((sumB a2.L q_) : Nat) : Int)))), (11, (Vi (((q_ : Nat) : Int))))] ∧ Kp (fun _ => False) w227 w_ ∧ (q_ ≤ 4)) (fun q_ => (4 - q_)) 0 ⟨⟨g238, g239, g240, g241, g242, g243, trivial⟩, Kp.refl _ _, (show 0 ≤ 4 from (Nat.zero_le _))⟩ ?_
              rintro k E w250 ⟨⟨g244, g245, g246, g247, g248, g249, -⟩, hk251, hi253⟩ K252 hK252
              replace hi253 : k ≤ 4 := hi253
              have ka254 := (Kp.then0 ka229 hk251)
              have hk9 := hi253
              refine seq fun K255 hK255 => ?_
              refine seq fun K256 hK256 => ?_
              refine reg ?_
              refine s_y (y_move (v := (Vi (((k : Nat) : Int)))) g249) rfl ?_
              refine s_y (y_lss rfl rfl) rfl ?_
              refine s_nil (hK256 _ _ (genC [(1, (.slice (some ⟨ab, ao, none⟩) n c)), (5, (Vp g.tb 0)), (7, (Vi (((i : Nat) : Int)))), (8, (Vp w61.heap.size 0)), (10, (Vi ((((sumB a2.L k) : Nat) : Int)))), (11, (Vi (((k : Nat) : Int)))), (81, (.bool (decide ((((k : Nat) : Int) : Int) < 4))))] ⟨g244, g245, g246, g247, g248, g249, rfl, trivial⟩ ?_))
              clear hK256; rintro E ⟨g257, g258, g259, g260, g261, g262, g263, -⟩
              refine cond_d g263 (fun c264 => ?_) (fun c264 => ?_)
              · refine skip (hK255 _ _ (genC [(1, (.slice (some ⟨ab, ao, none⟩) n c)), (5, (Vp g.tb 0)), (7, (Vi (((i : Nat) : Int)))), (8, (Vp w61.heap.size 0)), (10, (Vi ((((sumB a2.L k) : Nat) : Int)))), (11, (Vi (((k : Nat) : Int))))] ⟨g257, g258, g259, g260, g261, g262, trivial⟩ ?_))
                clear hK255; rintro E ⟨g265, g266, g267, g268, g269, g270, -⟩
                refine seq fun K271 hK271 => ?_
                refine block ?_
                refine seq fun K272 hK272 => ?_
                refine reg ?_
                refine s_y (y_move (v := (Vp g.tb 0)) g266) rfl ?_
                refine s_y (y_move (v := (Vi (((k : Nat) : Int)))) g270) rfl ?_
                have hf273 := (STab.k0 ht2 hk251)
                refine s_e (e_call ca31 (args := [(Vp g.tb 0), (Vi (((k : Nat) : Int)))]) rfl (of_sx hf273 ((k : Nat) : Int) (by omega))) rfl ?_
                rintro _ w274 ⟨⟨ys275, hp276, -, ⟨hz277, rfl⟩ | ⟨rb278, cap279, rfl, hC280, hf281⟩⟩, hk282⟩
                · have hq9 : ys275.length = cntB a2.L (k : Int) := List.Perm.length_eq hp276; have hq8 : sumB a2.L k + cntB a2.L (k : Int) ≤ a2.L.length := sumB_le a2.L (k + 1)
                  have hq6 : cntB a2.L (k : Int) = 0 := by rw [← hq9, hz277]; rfl
                  have ka283 := (Kp.then0 ka254 hk282)
                  refine s_y (y_assign (v := (.slice none 0 0)) rfl) rfl ?_
                  refine s_nil (hK272 _ _ (genC [(1, (.slice (some ⟨ab, ao, none⟩) n c)), (5, (Vp g.tb 0)), (7, (Vi (((i : Nat) : Int)))), (8, (Vp w61.heap.size 0)), (10, (Vi ((((sumB a2.L k) : Nat) : Int)))), (11, (Vi (((k : Nat) : Int)))), (12, (.slice none 0 0))] ⟨g265, g266, g267, g268, g269, g270, rfl, trivial⟩ ?_))
                  clear hK272; rintro E ⟨g284, g285, g286, g287, g288, g289, g290, -⟩
                  refine seq fun K291 hK291 => ?_
                  refine reg ?_
                  refine s_y (y_move (v := (Vi ((((sumB a2.L k) : Nat) : Int)))) g288) rfl ?_
                  refine s_y (y_move (v := (.slice none 0 0)) g290) rfl ?_
                  refine s_y (y_lenS so63 rfl) rfl ?_
                  refine s_y (y_add rfl rfl (c := (((sumB a2.L k) : Nat) : Int) + ((0 : Nat) : Int)) (by omega) rfl) rfl ?_
                  refine s_y (y_assign (v := (Vi ((((sumB a2.L k) : Nat) : Int) + ((0 : Nat) : Int)))) rfl) rfl ?_
                  refine s_nil (hK291 _ _ (genC [(1, (.slice (some ⟨ab, ao, none⟩) n c)), (5, (Vp g.tb 0)), (7, (Vi (((i : Nat) : Int)))), (8, (Vp w61.heap.size 0)), (10, (Vi ((((sumB a2.L k) : Nat) : Int) + ((0 : Nat) : Int)))), (11, (Vi (((k : Nat) : Int)))), (12, (.slice none 0 0))] ⟨g284, g285, g286, g287, rfl, g289, g290, trivial⟩ ?_))
                  clear hK291; rintro E ⟨g292, g293, g294, g295, g296, g297, g298, -⟩
                  refine seq fun K299 hK299 => ?_
                  refine reg ?_
                  refine s_y (y_assign (v := Vf) rfl) rfl ?_
                  refine s_nil (hK299 _ _ (genC [(1, (.slice (some ⟨ab, ao, none⟩) n c)), (5, (Vp g.tb 0)), (7, (Vi (((i : Nat) : Int)))), (8, (Vp w61.heap.size 0)), (10, (Vi ((((sumB a2.L k) : Nat) : Int) + ((0 : Nat) : Int)))), (11, (Vi (((k : Nat) : Int)))), (12, (.slice none 0 0)), (13, Vf)] ⟨g292, g293, g294, g295, g296, g297, g298, rfl, trivial⟩ ?_))
                  clear hK299; rintro E ⟨g300, g301, g302, g303, g304, g305, g306, g307, -⟩
                  refine seq fun K308 hK308 => ?_
                  refine seq fun K309 hK309 => ?_
                  refine reg ?_
                  refine s_y (y_assign (v := (Vi 0)) rfl) rfl ?_
                  refine s_nil (hK309 _ _ (genC [(1, (.slice (some ⟨ab, ao, none⟩) n c)), (5, (Vp g.tb 0)), (7, (Vi (((i : Nat) : Int)))), (8, (Vp w61.heap.size 0)), (10, (Vi ((((sumB a2.L k) : Nat) : Int) + ((0 : Nat) : Int)))), (11, (Vi (((k : Nat) : Int)))), (12, (.slice none 0 0)), (13, Vf), (14, (Vi 0))] ⟨g300, g301, g302, g303, g304, g305, g306, g307, rfl, trivial⟩ ?_))
                  clear hK309; rintro E ⟨g310, g311, g312, g313, g314, g315, g316, g317, g318, -⟩
                  refine block ?_
                  refine loopG (X := Nat) (fun q_ E w_ => Has E [(1, (.slice (some ⟨ab, ao, none⟩) n c)), (5, (Vp g.tb 0)), (7, (Vi (((i : Nat) : Int)))), (8, (Vp w61.heap.size 0)), (10, (Vi ((((sumB a2.L k) : Nat) : Int) + ((0 : Nat) : Int)))), (11, (Vi (((k : Nat) : Int)))), (12, (.slice none 0 0)), (13, Vf), (14, (Vi (((q_ : Nat) : Int))))] ∧ Kp (fun _ => False) w274 w_ ∧ (q_ = 0)) (fun q_ => q_) 0 ⟨⟨g310, g311, g312, g313, g314, g315, g316, g317, g318, trivial⟩, Kp.refl _ _, (show 0 = 0 from rfl)⟩ ?_
                  rintro j E w328 ⟨⟨g319, g320, g321, g322, g323, g324, g325, g326, g327, -⟩, hk329, hi331⟩ K330 hK330
                  replace hi331 : j = 0 := hi331
                  have ka332 := (Kp.then0 ka283 hk329)
                  refine seq fun K333 hK333 => ?_
                  refine seq fun K334 hK334 => ?_
                  refine reg ?_
                  refine s_y (y_move (v := (Vi (((j : Nat) : Int)))) g327) rfl ?_
                  refine s_y (y_move (v := (.slice none 0 0)) g325) rfl ?_
                  refine s_y (y_lenS so63 rfl) rfl ?_
                  refine s_y (y_lss rfl rfl) rfl ?_
                  refine s_nil (hK334 _ _ (genC [(1, (.slice (some ⟨ab, ao, none⟩) n c)), (5, (Vp g.tb 0)), (7, (Vi (((i : Nat) : Int)))), (8, (Vp w61.heap.size 0)), (10, (Vi ((((sumB a2.L k) : Nat) : Int) + ((0 : Nat) : Int)))), (11, (Vi (((k : Nat) : Int)))), (12, (.slice none 0 0)), (13, Vf), (14, (Vi (((j : Nat) : Int)))), (94, (.bool (decide ((((j : Nat) : Int) : Int) < ((0 : Nat) : Int)))))] ⟨g319, g320, g321, g322, g323, g324, g325, g326, g327, rfl, trivial⟩ ?_))
                  clear hK334; rintro E ⟨g335, g336, g337, g338, g339, g340, g341, g342, g343, g344, -⟩
                  refine cond_d g344 (fun c345 => ?_) (fun c345 => ?_)
                  · omega
                  · refine exit (hK308 _ _ (genC [(1, (.slice (some ⟨ab, ao, none⟩) n c)), (5, (Vp g.tb 0)), (7, (Vi (((i : Nat) : Int)))), (8, (Vp w61.heap.size 0)), (10, (Vi ((((sumB a2.L k) : Nat) : Int) + ((0 : Nat) : Int)))), (11, (Vi (((k : Nat) : Int)))), (13, Vf)] ⟨g335, g336, g337, g338, g339, g340, g342, trivial⟩ ?_))
                    clear hK308; rintro E ⟨g346, g347, g348, g349, g350, g351, g352, -⟩
                    refine seq fun K353 hK353 => ?_
                    refine reg ?_
                    refine s_y (y_move (v := (Vp g.tb 0)) g347) rfl ?_
                    refine s_y (y_move (v := (Vi (((k : Nat) : Int)))) g351) rfl ?_
                    refine s_y (y_fld fo57_1 g349) rfl ?_
                    have hb354 := (hk329.get0 (hk282.get0 (hk251.get0 hbx9)))
                    refine s_y (y_load (v := (u8 x9.a)) rfl (rd_sc sc5 (On.now hb354) rfl)) rfl ?_
                    refine s_e (e_call ca28 (args := [(u8 x9.a), (Vi 0)]) rfl (peerT_spec x9.a 0 _)) rfl ?_
                    rintro _ w355 ⟨rfl, hk356⟩
                    have ka357 := (Kp.then0 ka332 hk356)
                    refine s_y (y_field (v := (.agg #[u8 9, u8 0, u8 0, u8 x9.a])) rfl (fun _ => by kernel_rfl)) rfl ?_
                    have he9 : ((a2.L.filter fun x => decide (x.binding = ((k : Nat) : Int))).any (fun x : Session => decide (x.peer.addr = ⟨9, 0, 0, x9.a⟩))) = false := by rw [← any_perm hp276, hz277]; rfl
                    have hf358 := (STab.k0 (STab.k0 (STab.k0 hf273 hk282) hk329) hk356)
                    refine s_e (e_call ca32 (args := [(Vp g.tb 0), (Vi (((k : Nat) : Int))), (.agg #[u8 9, u8 0, u8 0, u8 x9.a])]) rfl (knows_sx hf358 ((k : Nat) : Int) ⟨9, 0, 0, x9.a⟩ (by omega))) rfl ?_
                    rintro _ w359 ⟨rfl, hk360⟩
                    have ka361 := (Kp.then0 ka357 hk360)
                    refine s_y (y_move (v := Vf) g352) rfl ?_
                    refine s_y (y_bneq Tryd.underlying4 rfl rfl) rfl ?_
                    refine s_nil (hK353 _ _ (genC [(1, (.slice (some ⟨ab, ao, none⟩) n c)), (5, (Vp g.tb 0)), (7, (Vi (((i : Nat) : Int)))), (8, (Vp w61.heap.size 0)), (10, (Vi ((((sumB a2.L k) : Nat) : Int) + ((0 : Nat) : Int)))), (11, (Vi (((k : Nat) : Int)))), (126, (.bool (!(((a2.L.filter fun x => decide (x.binding = ((k : Nat) : Int))).any (fun x : Session => decide (x.peer.addr = ⟨9, 0, 0, x9.a⟩))) == false))))] ⟨g346, g347, g348, g349, g350, g351, rfl, trivial⟩ ?_))
                    clear hK353; rintro E ⟨g362, g363, g364, g365, g366, g367, g368, -⟩
                    refine cond_b g368 (fun c369 => ?_) (fun c369 => ?_)
                    · exact (ne_dead he9 c369).elim
                    · refine skip (hK271 _ _ (genC [(1, (.slice (some ⟨ab, ao, none⟩) n c)), (5, (Vp g.tb 0)), (7, (Vi (((i : Nat) : Int)))), (8, (Vp w61.heap.size 0)), (10, (Vi ((((sumB a2.L k) : Nat) : Int) + ((0 : Nat) : Int)))), (11, (Vi (((k : Nat) : Int))))] ⟨g362, g363, g364, g365, g366, g367, trivial⟩ ?_))
                      clear hK271; rintro E ⟨g370, g371, g372, g373, g374, g375, -⟩
                      refine reg ?_
                      refine s_y (y_move (v := (Vi (((k : Nat) : Int)))) g375) rfl ?_
                      refine s_y (y_add rfl rfl (c := ((k : Nat) : Int) + 1) (by omega) rfl) rfl ?_
                      refine s_y (y_assign (v := (Vi (((k : Nat) : Int) + 1))) rfl) rfl ?_
                      have kc376 : Kp (fun _ => False) w227 w250 := (Kp.then0 (Kp.refl _ _) hk251)
                      have kc377 : Kp (fun _ => False) w227 w274 := (Kp.then0 kc376 hk282)
                      have kc378 : Kp (fun _ => False) w227 w328 := (Kp.then0 kc377 hk329)
                      have kc379 : Kp (fun _ => False) w227 w355 := (Kp.then0 kc378 hk356)
                      have kc380 : Kp (fun _ => False) w227 w359 := (Kp.then0 kc379 hk360)
                      exact s_nil (hK252 (k + 1) _ _ ⟨⟨g370, g371, g372, g373, (Eq.trans g374 (congrArg (Value.int .i64) (by show _ = ((sumB a2.L k + cntB a2.L (k : Int) : Nat) : Int); omega))), rfl, trivial⟩, kc380, (show (k + 1) ≤ 4 from (by omega))⟩ (by show (4 - (k + 1)) < (4 - k); omega))
                · have hq9 : ys275.length = cntB a2.L (k : Int) := List.Perm.length_eq hp276; have hq8 : sumB a2.L k + cntB a2.L (k : Int) ≤ a2.L.length := sumB_le a2.L (k + 1)
                  have ka381 := (Kp.then0 ka254 hk282)
                  refine s_y (y_assign (v := (.slice (some ⟨rb278, 0, none⟩) ys275.length cap279)) rfl) rfl ?_
                  refine s_nil (hK272 _ _ (genC [(1, (.slice (some ⟨ab, ao, none⟩) n c)), (5, (Vp g.tb 0)), (7, (Vi (((i : Nat) : Int)))), (8, (Vp w61.heap.size 0)), (10, (Vi ((((sumB a2.L k) : Nat) : Int)))), (11, (Vi (((k : Nat) : Int)))), (12, (.slice (some ⟨rb278, 0, none⟩) ys275.length cap279))] ⟨g265, g266, g267, g268, g269, g270, rfl, trivial⟩ ?_))
                  clear hK272; rintro E ⟨g382, g383, g384, g385, g386, g387, g388, -⟩
                  refine seq fun K389 hK389 => ?_
                  refine reg ?_
                  refine s_y (y_move (v := (Vi ((((sumB a2.L k) : Nat) : Int)))) g386) rfl ?_
                  refine s_y (y_move (v := (.slice (some ⟨rb278, 0, none⟩) ys275.length cap279)) g388) rfl ?_
                  refine s_y (y_lenS so63 rfl) rfl ?_
                  refine s_y (y_add rfl rfl (c := (((sumB a2.L k) : Nat) : Int) + ((ys275.length : Nat) : Int)) (by omega) rfl) rfl ?_
                  refine s_y (y_assign (v := (Vi ((((sumB a2.L k) : Nat) : Int) + ((ys275.length : Nat) : Int)))) rfl) rfl ?_
                  refine s_nil (hK389 _ _ (genC [(1, (.slice (some ⟨ab, ao, none⟩) n c)), (5, (Vp g.tb 0)), (7, (Vi (((i : Nat) : Int)))), (8, (Vp w61.heap.size 0)), (10, (Vi ((((sumB a2.L k) : Nat) : Int) + ((ys275.length : Nat) : Int)))), (11, (Vi (((k : Nat) : Int)))), (12, (.slice (some ⟨rb278, 0, none⟩) ys275.length cap279))] ⟨g382, g383, g384, g385, rfl, g387, g388, trivial⟩ ?_))
                  clear hK389; rintro E ⟨g390, g391, g392, g393, g394, g395, g396, -⟩
                  refine seq fun K397 hK397 => ?_
                  refine reg ?_
                  refine s_y (y_assign (v := Vf) rfl) rfl ?_
                  refine s_nil (hK397 _ _ (genC [(1, (.slice (some ⟨ab, ao, none⟩) n c)), (5, (Vp g.tb 0)), (7, (Vi (((i : Nat) : Int)))), (8, (Vp w61.heap.size 0)), (10, (Vi ((((sumB a2.L k) : Nat) : Int) + ((ys275.length : Nat) : Int)))), (11, (Vi (((k : Nat) : Int)))), (12, (.slice (some ⟨rb278, 0, none⟩) ys275.length cap279)), (13, Vf)] ⟨g390, g391, g392, g393, g394, g395, g396, rfl, trivial⟩ ?_))
                  clear hK397; rintro E ⟨g398, g399, g400, g401, g402, g403, g404, g405, -⟩
                  refine seq fun K406 hK406 => ?_
                  refine seq fun K407 hK407 => ?_
                  refine reg ?_
                  refine s_y (y_assign (v := (Vi 0)) rfl) rfl ?_
                  refine s_nil (hK407 _ _ (genC [(1, (.slice (some ⟨ab, ao, none⟩) n c)), (5, (Vp g.tb 0)), (7, (Vi (((i : Nat) : Int)))), (8, (Vp w61.heap.size 0)), (10, (Vi ((((sumB a2.L k) : Nat) : Int) + ((ys275.length : Nat) : Int)))), (11, (Vi (((k : Nat) : Int)))), (12, (.slice (some ⟨rb278, 0, none⟩) ys275.length cap279)), (13, Vf), (14, (Vi 0))] ⟨g398, g399, g400, g401, g402, g403, g404, g405, rfl, trivial⟩ ?_))
                  clear hK407; rintro E ⟨g408, g409, g410, g411, g412, g413, g414, g415, g416, -⟩
                  refine block ?_
                  refine loopG (X := Nat × Bool) (fun q_ E w_ => Has E [(1, (.slice (some ⟨ab, ao, none⟩) n c)), (5, (Vp g.tb 0)), (7, (Vi (((i : Nat) : Int)))), (8, (Vp w61.heap.size 0)), (10, (Vi ((((sumB a2.L k) : Nat) : Int) + ((ys275.length : Nat) : Int)))), (11, (Vi (((k : Nat) : Int)))), (12, (.slice (some ⟨rb278, 0, none⟩) ys275.length cap279)), (13, (.bool (q_.2))), (14, (Vi (((q_.1 : Nat) : Int))))] ∧ Kp (fun _ => False) w274 w_ ∧ (q_.1 ≤ ys275.length) ∧ (q_.2 = (ys275.take q_.1).any (fun x : Session => decide (x.peer.addr = ⟨9, 0, 0, x9.a⟩)))) (fun q_ => (ys275.length - q_.1)) (0, false) ⟨⟨g408, g409, g410, g411, g412, g413, g414, g415, g416, trivial⟩, Kp.refl _ _, (show 0 ≤ ys275.length from (Nat.zero_le _)), (show false = (ys275.take 0).any (fun x : Session => decide (x.peer.addr = ⟨9, 0, 0, x9.a⟩)) from rfl)⟩ ?_
                  rintro ⟨j, kn⟩ E w426 ⟨⟨g417, g418, g419, g420, g421, g422, g423, g424, g425, -⟩, hk427, hi429, hi430⟩ K428 hK428
                  replace g417 : E 1 = (.slice (some ⟨ab, ao, none⟩) n c) := g417
                  replace g418 : E 5 = (Vp g.tb 0) := g418
                  replace g419 : E 7 = (Vi (((i : Nat) : Int))) := g419
                  replace g420 : E 8 = (Vp w61.heap.size 0) := g420
                  replace g421 : E 10 = (Vi ((((sumB a2.L k) : Nat) : Int) + ((ys275.length : Nat) : Int))) := g421
                  replace g422 : E 11 = (Vi (((k : Nat) : Int))) := g422
                  replace g423 : E 12 = (.slice (some ⟨rb278, 0, none⟩) ys275.length cap279) := g423
                  replace g424 : E 13 = (.bool (kn)) := g424
                  replace g425 : E 14 = (Vi (((j : Nat) : Int))) := g425
                  replace hi429 : j ≤ ys275.length := hi429
                  replace hi430 : kn = (ys275.take j).any (fun x : Session => decide (x.peer.addr = ⟨9, 0, 0, x9.a⟩)) := hi430
                  have ka431 := (Kp.then0 ka381 hk427)
                  have hj9 := hi429; have hkn9 := hi430
                  refine seq fun K432 hK432 => ?_
                  refine seq fun K433 hK433 => ?_
                  refine reg ?_
                  refine s_y (y_move (v := (Vi (((j : Nat) : Int)))) g425) rfl ?_
                  refine s_y (y_move (v := (.slice (some ⟨rb278, 0, none⟩) ys275.length cap279)) g423) rfl ?_
                  refine s_y (y_lenS so63 rfl) rfl ?_
                  refine s_y (y_lss rfl rfl) rfl ?_
                  refine s_nil (hK433 _ _ (genC [(1, (.slice (some ⟨ab, ao, none⟩) n c)), (5, (Vp g.tb 0)), (7, (Vi (((i : Nat) : Int)))), (8, (Vp w61.heap.size 0)), (10, (Vi ((((sumB a2.L k) : Nat) : Int) + ((ys275.length : Nat) : Int)))), (11, (Vi (((k : Nat) : Int)))), (12, (.slice (some ⟨rb278, 0, none⟩) ys275.length cap279)), (13, (.bool (kn))), (14, (Vi (((j : Nat) : Int)))), (94, (.bool (decide ((((j : Nat) : Int) : Int) < ((ys275.length : Nat) : Int)))))] ⟨g417, g418, g419, g420, g421, g422, g423, g424, g425, rfl, trivial⟩ ?_))
                  clear hK433; rintro E ⟨g434, g435, g436, g437, g438, g439, g440, g441, g442, g443, -⟩
                  refine cond_d g443 (fun c444 => ?_) (fun c444 => ?_)
                  · obtain ⟨z9, hz9⟩ : ∃ x, ys275[j]? = some x := ⟨_, List.getElem?_eq_getElem (by omega)⟩
                    have hzb9 : z9.binding = ((k : Nat) : Int) := by have h9 := (List.mem_filter.1 (List.Perm.mem_iff hp276 |>.1 (List.mem_of_getElem? hz9))).2; simpa using h9
                    refine skip (hK432 _ _ (genC [(1, (.slice (some ⟨ab, ao, none⟩) n c)), (5, (Vp g.tb 0)), (7, (Vi (((i : Nat) : Int)))), (8, (Vp w61.heap.size 0)), (10, (Vi ((((sumB a2.L k) : Nat) : Int) + ((ys275.length : Nat) : Int)))), (11, (Vi (((k : Nat) : Int)))), (12, (.slice (some ⟨rb278, 0, none⟩) ys275.length cap279)), (13, (.bool (kn))), (14, (Vi (((j : Nat) : Int))))] ⟨g434, g435, g436, g437, g438, g439, g440, g441, g442, trivial⟩ ?_))
                    clear hK432; rintro E ⟨g445, g446, g447, g448, g449, g450, g451, g452, g453, -⟩
                    refine seq fun K454 hK454 => ?_
                    refine block ?_
                    refine seq fun K455 hK455 => ?_
                    refine seq fun K456 hK456 => ?_
                    refine reg ?_
                    refine s_y (y_move (v := (.slice (some ⟨rb278, 0, none⟩) ys275.length cap279)) g451) rfl ?_
                    refine s_y (y_move (v := (Vi (((j : Nat) : Int)))) g453) rfl ?_
                    refine s_y (y_idx so63 sz59 rfl (i := j) rfl (by omega)) rfl ?_
                    refine s_y (y_fld fo59_1 rfl) rfl ?_
                    have hf457 := (hC280.kp hk427 id)
                    refine s_y (y_load (v := (Vi (z9.binding))) rfl (rd_ef sc3 (EltsOn.now (OwnC.elts hf457)) hz9 rfl)) rfl ?_
                    refine s_y (y_move (v := (Vi (((k : Nat) : Int)))) g450) rfl ?_
                    refine s_y (y_neq rfl rfl) rfl ?_
                    refine s_nil (hK456 _ _ (genC [(1, (.slice (some ⟨ab, ao, none⟩) n c)), (5, (Vp g.tb 0)), (7, (Vi (((i : Nat) : Int)))), (8, (Vp w61.heap.size 0)), (10, (Vi ((((sumB a2.L k) : Nat) : Int) + ((ys275.length : Nat) : Int)))), (11, (Vi (((k : Nat) : Int)))), (12, (.slice (some ⟨rb278, 0, none⟩) ys275.length cap279)), (13, (.bool (kn))), (14, (Vi (((j : Nat) : Int)))), (103, (.bool (decide ((z9.binding : Int) ≠ ((k : Nat) : Int)))))] ⟨g445, g446, g447, g448, g449, g450, g451, g452, g453, rfl, trivial⟩ ?_))
                    clear hK456; rintro E ⟨g458, g459, g460, g461, g462, g463, g464, g465, g466, g467, -⟩
                    refine cond_d g467 (fun c468 => ?_) (fun c468 => ?_)
                    · exact absurd hzb9 c468
                    · refine skip (hK455 _ _ (genC [(1, (.slice (some ⟨ab, ao, none⟩) n c)), (5, (Vp g.tb 0)), (7, (Vi (((i : Nat) : Int)))), (8, (Vp w61.heap.size 0)), (10, (Vi ((((sumB a2.L k) : Nat) : Int) + ((ys275.length : Nat) : Int)))), (11, (Vi (((k : Nat) : Int)))), (12, (.slice (some ⟨rb278, 0, none⟩) ys275.length cap279)), (13, (.bool (kn))), (14, (Vi (((j : Nat) : Int))))] ⟨g458, g459, g460, g461, g462, g463, g464, g465, g466, trivial⟩ ?_))
                      clear hK455; rintro E ⟨g469, g470, g471, g472, g473, g474, g475, g476, g477, -⟩
                      refine regD (fun _ => False) (.take 0 (.take 1 (.take 2 (.take 3 (.take 4 (.take 5 (.take 6 (.take 7 (.take 8 (.take 9 (.one 10 (.take 11 (.take 12 (.take 13 (.take 14 .done))))))))))))))) mixed (by kernel_rfl) fun w478 hh479 hk480 => ?_
                      have ka481 := (Kp.then0 ka431 hk480)
                      refine o_y rfl (y_move (v := (.bool (kn))) g476) ?_
                      refine o_y rfl (y_move (v := (.bool (kn))) rfl) ?_
                      refine (Bool.eq_false_or_eq_true (kn)).elim (fun c482 => ?_) (fun c482 => ?_)
                      · refine o_no rfl (.no rfl (c := true) (congrArg Value.bool c482) rfl) ?_
                        refine o_no rfl (.no rfl (c := true) (congrArg Value.bool c482) rfl) ?_
                        refine o_no rfl (.no rfl (c := true) (congrArg Value.bool c482) rfl) ?_
                        refine o_no rfl (.no rfl (c := true) (congrArg Value.bool c482) rfl) ?_
                        refine o_no rfl (.no rfl (c := true) (congrArg Value.bool c482) rfl) ?_
                        refine o_no rfl (.no rfl (c := true) (congrArg Value.bool c482) rfl) ?_
                        refine o_no rfl (.no rfl (c := true) (congrArg Value.bool c482) rfl) ?_
                        refine o_no rfl (.no rfl (c := true) (congrArg Value.bool c482) rfl) ?_
                        refine o_one ?_
                        refine c_no rfl (.no rfl (c := true) (congrArg Value.bool c482) rfl) (Kp.refl _ _) ?_
                        refine o_no rfl (.no rfl (c := true) (congrArg Value.bool c482) rfl) ?_
                        refine o_no rfl (.no rfl (c := true) (congrArg Value.bool c482) rfl) ?_
                        refine o_y rfl (y_pick_t (congrArg Value.bool c482) (v := Vt) rfl) ?_
                        refine o_y rfl (y_assign (v := Vt) rfl) ?_
                        refine o_done (hK454 _ _ (genC [(1, (.slice (some ⟨ab, ao, none⟩) n c)), (5, (Vp g.tb 0)), (7, (Vi (((i : Nat) : Int)))), (8, (Vp w61.heap.size 0)), (10, (Vi ((((sumB a2.L k) : Nat) : Int) + ((ys275.length : Nat) : Int)))), (11, (Vi (((k : Nat) : Int)))), (12, (.slice (some ⟨rb278, 0, none⟩) ys275.length cap279)), (13, Vt), (14, (Vi (((j : Nat) : Int))))] ⟨g469, g470, g471, g472, g473, g474, g475, rfl, g477, trivial⟩ ?_))
                        clear hK454; rintro E ⟨g483, g484, g485, g486, g487, g488, g489, g490, g491, -⟩
                        refine reg ?_
                        refine s_y (y_move (v := (Vi (((j : Nat) : Int)))) g491) rfl ?_
                        refine s_y (y_add rfl rfl (c := ((j : Nat) : Int) + 1) (by omega) rfl) rfl ?_
                        refine s_y (y_assign (v := (Vi (((j : Nat) : Int) + 1))) rfl) rfl ?_
                        have kc492 : Kp (fun _ => False) w274 w426 := (Kp.then0 (Kp.refl _ _) hk427)
                        have kc493 : Kp (fun _ => False) w274 w478 := (Kp.then0 kc492 hk480)
                        exact s_nil (hK428 ((j + 1), true) _ _ ⟨⟨g483, g484, g485, g486, g487, g488, g489, g490, rfl, trivial⟩, kc493, (show (j + 1) ≤ ys275.length from (by omega)), (show true = (ys275.take (j + 1)).any (fun x : Session => decide (x.peer.addr = ⟨9, 0, 0, x9.a⟩)) from (by rw [any_next hz9, ← hkn9, c482]; first | rfl | (simp)))⟩ (by show (ys275.length - (j + 1)) < (ys275.length - j); omega))
                      · refine o_gy rfl (.yes rfl (congrArg Value.bool c482)) (y_move (v := (.slice (some ⟨rb278, 0, none⟩) ys275.length cap279)) g475) ?_
                        refine o_gy rfl (.yes rfl (congrArg Value.bool c482)) (y_move (v := (Vi (((j : Nat) : Int)))) g477) ?_
                        refine o_gy rfl (.yes rfl (congrArg Value.bool c482)) (y_idx so63 sz59 rfl (i := j) rfl (by omega)) ?_
                        refine o_gy rfl (.yes rfl (congrArg Value.bool c482)) (y_fld fo59_2 rfl) ?_
                        refine o_gy rfl (.yes rfl (congrArg Value.bool c482)) (y_fld fo34_0 rfl) ?_
                        refine o_gy rfl (.yes rfl (congrArg Value.bool c482)) (y_load (v := (.agg #[u8 z9.peer.addr.a, u8 z9.peer.addr.b, u8 z9.peer.addr.c, u8 z9.peer.addr.d])) rfl (rd_eg ag27 (EltsOn.kp (OwnC.elts (hf457.kp hk480 id)) id) hz9 (vs := [(u8 z9.peer.addr.a), (u8 z9.peer.addr.b), (u8 z9.peer.addr.c), (u8 z9.peer.addr.d)]) rfl rfl)) ?_
                        refine o_gy rfl (.yes rfl (congrArg Value.bool c482)) (y_fld fo57_1 g472) ?_
                        refine o_gy rfl (.yes rfl (congrArg Value.bool c482)) (y_load (v := (u8 x9.a)) rfl (rd_sc sc5 (On.kp (hk480.get0 (hk427.get0 (hk282.get0 (hk251.get0 hbx9)))) id) rfl)) ?_
                        refine o_one ?_
                        refine c_ge rfl (.yes rfl (congrArg Value.bool c482)) (e_call ca28 (args := [(u8 x9.a), (Vi 0)]) rfl (peerT_spec x9.a 0 _)) ?_
                        rintro _ w494 ⟨rfl, hk495⟩
                        have ka496 := (Kp.then0 ka481 hk495)
                        have ks497 : Kp (fun _ => False) w478 w494 := (Kp.then0 (Kp.refl _ _) hk495)
                        refine ⟨ks497, ?_⟩
                        refine o_gy rfl (.yes rfl (congrArg Value.bool c482)) (y_field (v := (.agg #[u8 9, u8 0, u8 0, u8 x9.a])) rfl (fun _ => by kernel_rfl)) ?_
                        refine o_gy rfl (.yes rfl (congrArg Value.bool c482)) (y_eqT (eq27 9998) eg27 (x := z9.peer.addr) (y := (⟨9, 0, 0, x9.a⟩ : V4)) rfl rfl ⟨_, rfl⟩ ⟨_, rfl⟩) ?_
                        refine o_y rfl (y_pick_f (congrArg Value.bool c482) (v := (.bool (decide (z9.peer.addr = (⟨9, 0, 0, x9.a⟩ : V4))))) rfl) ?_
                        refine o_y rfl (y_assign (v := (.bool (decide (z9.peer.addr = (⟨9, 0, 0, x9.a⟩ : V4))))) rfl) ?_
                        refine o_done (hK454 _ _ (genC [(1, (.slice (some ⟨ab, ao, none⟩) n c)), (5, (Vp g.tb 0)), (7, (Vi (((i : Nat) : Int)))), (8, (Vp w61.heap.size 0)), (10, (Vi ((((sumB a2.L k) : Nat) : Int) + ((ys275.length : Nat) : Int)))), (11, (Vi (((k : Nat) : Int)))), (12, (.slice (some ⟨rb278, 0, none⟩) ys275.length cap279)), (13, (.bool (decide (z9.peer.addr = (⟨9, 0, 0, x9.a⟩ : V4))))), (14, (Vi (((j : Nat) : Int))))] ⟨g469, g470, g471, g472, g473, g474, g475, rfl, g477, trivial⟩ ?_))
                        clear hK454; rintro E ⟨g498, g499, g500, g501, g502, g503, g504, g505, g506, -⟩
                        refine reg ?_
                        refine s_y (y_move (v := (Vi (((j : Nat) : Int)))) g506) rfl ?_
                        refine s_y (y_add rfl rfl (c := ((j : Nat) : Int) + 1) (by omega) rfl) rfl ?_
                        refine s_y (y_assign (v := (Vi (((j : Nat) : Int) + 1))) rfl) rfl ?_
                        have kc507 : Kp (fun _ => False) w274 w426 := (Kp.then0 (Kp.refl _ _) hk427)
                        have kc508 : Kp (fun _ => False) w274 w478 := (Kp.then0 kc507 hk480)
                        have kc509 : Kp (fun _ => False) w274 w494 := (Kp.then0 kc508 hk495)
                        exact s_nil (hK428 ((j + 1), decide (z9.peer.addr = (⟨9, 0, 0, x9.a⟩ : V4))) _ _ ⟨⟨g498, g499, g500, g501, g502, g503, g504, g505, rfl, trivial⟩, kc509, (show (j + 1) ≤ ys275.length from (by omega)), (show (decide (z9.peer.addr = (⟨9, 0, 0, x9.a⟩ : V4))) = (ys275.take (j + 1)).any (fun x : Session => decide (x.peer.addr = ⟨9, 0, 0, x9.a⟩)) from (by rw [any_next hz9, ← hkn9, c482]; first | rfl | (simp)))⟩ (by show (ys275.length - (j + 1)) < (ys275.length - j); omega))
                  · have hje9 : j = ys275.length := by omega
                    refine exit (hK406 _ _ (genC [(1, (.slice (some ⟨ab, ao, none⟩) n c)), (5, (Vp g.tb 0)), (7, (Vi (((i : Nat) : Int)))), (8, (Vp w61.heap.size 0)), (10, (Vi ((((sumB a2.L k) : Nat) : Int) + ((ys275.length : Nat) : Int)))), (11, (Vi (((k : Nat) : Int)))), (13, (.bool (kn)))] ⟨g434, g435, g436, g437, g438, g439, g441, trivial⟩ ?_))
                    clear hK406; rintro E ⟨g510, g511, g512, g513, g514, g515, g516, -⟩
                    refine seq fun K517 hK517 => ?_
                    refine reg ?_
                    refine s_y (y_move (v := (Vp g.tb 0)) g511) rfl ?_
                    refine s_y (y_move (v := (Vi (((k : Nat) : Int)))) g515) rfl ?_
                    refine s_y (y_fld fo57_1 g513) rfl ?_
                    have hb518 := (hk427.get0 (hk282.get0 (hk251.get0 hbx9)))
                    refine s_y (y_load (v := (u8 x9.a)) rfl (rd_sc sc5 (On.now hb518) rfl)) rfl ?_
                    refine s_e (e_call ca28 (args := [(u8 x9.a), (Vi 0)]) rfl (peerT_spec x9.a 0 _)) rfl ?_
                    rintro _ w519 ⟨rfl, hk520⟩
                    have ka521 := (Kp.then0 ka431 hk520)
                    refine s_y (y_field (v := (.agg #[u8 9, u8 0, u8 0, u8 x9.a])) rfl (fun _ => by kernel_rfl)) rfl ?_
                    have he9 : ((a2.L.filter fun x => decide (x.binding = ((k : Nat) : Int))).any (fun x : Session => decide (x.peer.addr = ⟨9, 0, 0, x9.a⟩))) = kn := by rw [← any_perm hp276, hkn9, hje9, List.take_length]
                    have hf522 := (STab.k0 (STab.k0 (STab.k0 hf273 hk282) hk427) hk520)
                    refine s_e (e_call ca32 (args := [(Vp g.tb 0), (Vi (((k : Nat) : Int))), (.agg #[u8 9, u8 0, u8 0, u8 x9.a])]) rfl (knows_sx hf522 ((k : Nat) : Int) ⟨9, 0, 0, x9.a⟩ (by omega))) rfl ?_
                    rintro _ w523 ⟨rfl, hk524⟩
                    have ka525 := (Kp.then0 ka521 hk524)
                    refine s_y (y_move (v := (.bool (kn))) g516) rfl ?_
                    refine s_y (y_bneq Tryd.underlying4 rfl rfl) rfl ?_
                    refine s_nil (hK517 _ _ (genC [(1, (.slice (some ⟨ab, ao, none⟩) n c)), (5, (Vp g.tb 0)), (7, (Vi (((i : Nat) : Int)))), (8, (Vp w61.heap.size 0)), (10, (Vi ((((sumB a2.L k) : Nat) : Int) + ((ys275.length : Nat) : Int)))), (11, (Vi (((k : Nat) : Int)))), (126, (.bool (!(((a2.L.filter fun x => decide (x.binding = ((k : Nat) : Int))).any (fun x : Session => decide (x.peer.addr = ⟨9, 0, 0, x9.a⟩))) == kn))))] ⟨g510, g511, g512, g513, g514, g515, rfl, trivial⟩ ?_))
                    clear hK517; rintro E ⟨g526, g527, g528, g529, g530, g531, g532, -⟩
                    refine cond_b g532 (fun c533 => ?_) (fun c533 => ?_)
                    · exact (ne_dead he9 c533).elim
                    · refine skip (hK271 _ _ (genC [(1, (.slice (some ⟨ab, ao, none⟩) n c)), (5, (Vp g.tb 0)), (7, (Vi (((i : Nat) : Int)))), (8, (Vp w61.heap.size 0)), (10, (Vi ((((sumB a2.L k) : Nat) : Int) + ((ys275.length : Nat) : Int)))), (11, (Vi (((k : Nat) : Int))))] ⟨g526, g527, g528, g529, g530, g531, trivial⟩ ?_))
                      clear hK271; rintro E ⟨g534, g535, g536, g537, g538, g539, -⟩
                      refine reg ?_
                      refine s_y (y_move (v := (Vi (((k : Nat) : Int)))) g539) rfl ?_
                      refine s_y (y_add rfl rfl (c := ((k : Nat) : Int) + 1) (by omega) rfl) rfl ?_
                      refine s_y (y_assign (v := (Vi (((k : Nat) : Int) + 1))) rfl) rfl ?_
                      have kc540 : Kp (fun _ => False) w227 w250 := (Kp.then0 (Kp.refl _ _) hk251)
                      have kc541 : Kp (fun _ => False) w227 w274 := (Kp.then0 kc540 hk282)
                      have kc542 : Kp (fun _ => False) w227 w426 := (Kp.then0 kc541 hk427)
                      have kc543 : Kp (fun _ => False) w227 w519 := (Kp.then0 kc542 hk520)
                      have kc544 : Kp (fun _ => False) w227 w523 := (Kp.then0 kc543 hk524)
                      exact s_nil (hK252 (k + 1) _ _ ⟨⟨g534, g535, g536, g537, (Eq.trans g538 (congrArg (Value.int .i64) (by show _ = ((sumB a2.L k + cntB a2.L (k : Int) : Nat) : Int); omega))), rfl, trivial⟩, kc544, (show (k + 1) ≤ 4 from (by omega))⟩ (by show (4 - (k + 1)) < (4 - k); omega))
              · have hke9 : k = 4 := (by omega); have hs9 := sumB_all hb2; rw [← hke9] at hs9
                refine exit (hK236 _ _ (genC [(1, (.slice (some ⟨ab, ao, none⟩) n c)), (5, (Vp g.tb 0)), (7, (Vi (((i : Nat) : Int)))), (10, (Vi ((((sumB a2.L k) : Nat) : Int))))] ⟨g257, g258, g259, g261, trivial⟩ ?_))
                clear hK236; rintro E ⟨g545, g546, g547, g548, -⟩
                refine seq fun K549 hK549 => ?_
                refine reg ?_
                refine s_y (y_move (v := (Vi ((((sumB a2.L k) : Nat) : Int)))) g548) rfl ?_
                refine s_y (y_move (v := (Vp g.tb 0)) g546) rfl ?_
                have hf550 := (STab.k0 ht2 hk251)
                refine s_e (e_call ca33 (args := [(Vp g.tb 0)]) rfl (len_sx hf550)) rfl ?_
                rintro _ w551 ⟨rfl, hk552⟩
                have ka553 := (Kp.then0 ka254 hk552)
                refine s_y (y_neq rfl rfl) rfl ?_
                refine s_nil (hK549 _ _ (genC [(1, (.slice (some ⟨ab, ao, none⟩) n c)), (5, (Vp g.tb 0)), (7, (Vi (((i : Nat) : Int)))), (130, (.bool (decide (((((sumB a2.L k) : Nat) : Int) : Int) ≠ ((a2.L.length : Nat) : Int)))))] ⟨g545, g546, g547, rfl, trivial⟩ ?_))
                clear hK549; rintro E ⟨g554, g555, g556, g557, -⟩
                refine cond_d g557 (fun c558 => ?_) (fun c558 => ?_)
                · exact absurd (congrArg (fun n : Nat => (n : Int)) hs9) c558
                · refine skip (hK78 _ _ (genC [(1, (.slice (some ⟨ab, ao, none⟩) n c)), (5, (Vp g.tb 0)), (7, (Vi (((i : Nat) : Int))))] ⟨g554, g555, g556, trivial⟩ ?_))
                  clear hK78; rintro E ⟨g559, g560, g561, -⟩
                  refine reg ?_
                  refine s_y (y_move (v := (Vi (((i : Nat) : Int)))) g561) rfl ?_
                  refine s_y (y_add rfl rfl (c := ((i : Nat) : Int) + 1) (by omega) rfl) rfl ?_
                  refine s_y (y_assign (v := (Vi (((i : Nat) : Int) + 1))) rfl) rfl ?_
                  have hf562 := (STab.k0 hf550 hk552)
                  have kc563 : Kp (fun k => w.heap.size ≤ k) w38 w61 := (Kp.trans (Kp.refl _ _) hk62 fun _ _ e => e)
                  have kc564 : Kp (fun k => w.heap.size ≤ k) w38 w227 := (Kp.trans kc563 hk228 fun _ _ e => e)
                  have kc565 : Kp (fun k => w.heap.size ≤ k) w38 w250 := (Kp.then0 kc564 hk251)
                  have kc566 : Kp (fun k => w.heap.size ≤ k) w38 w551 := (Kp.then0 kc565 hk552)
                  exact s_nil (hK63 ((i + 1), a2, s2) _ _ ⟨⟨g559, g560, rfl, trivial⟩, kc566, (show (i + 1) ≤ acts.length from (by omega)), (show STab max g (((i + 1) : Nat) : Int) w.heap.size a2 s2 w551 from (STab.mono hf562 (by omega))), (show ∀ x ∈ (a2).L, B4 x.binding from hb2)⟩ (by show (acts.length - (i + 1)) < (acts.length - i); omega))
          · refine skip (hK99 _ _ (genC [(1, (.slice (some ⟨ab, ao, none⟩) n c)), (5, (Vp g.tb 0)), (7, (Vi (((i : Nat) : Int)))), (8, (Vp w61.heap.size 0)), (9, (Vi ((x9.b : Int).tmod 4)))] ⟨g101, g102, g103, g104, g105, trivial⟩ ?_))
            clear hK99; rintro E ⟨g567, g568, g569, g570, g571, -⟩
            refine seqJ (fun E w_ => Has E [(1, (.slice (some ⟨ab, ao, none⟩) n c)), (5, (Vp g.tb 0)), (7, (Vi (((i : Nat) : Int)))), (8, (Vp w61.heap.size 0))] ∧ Kp (fun k => w.heap.size ≤ k) w61 w_ ∧ Blk w_ w61.heap.size x9.cs.toArray 57 ∧ ∃ a2 s2, STab max g (((i : Nat) : Int) + 1) w.heap.size a2 s2 w_ ∧ (∀ x ∈ a2.L, B4 x.binding) ∧ w61.heap.size ∉ sfp g s2) (fun K573 hK573 => ?_) ?_
            · refine seq fun K574 hK574 => ?_
              refine reg ?_
              refine s_y (y_fld fo57_0 g570) rfl ?_
              refine s_y (y_load (v := (.int .u8 (x9.do_))) rfl (rd_sc sc5 (On.now hb86) rfl)) rfl ?_
              refine s_nil (hK574 _ _ (genC [(1, (.slice (some ⟨ab, ao, none⟩) n c)), (5, (Vp g.tb 0)), (7, (Vi (((i : Nat) : Int)))), (8, (Vp w61.heap.size 0)), (9, (Vi ((x9.b : Int).tmod 4))), (52, (.int .u8 (x9.do_)))] ⟨g567, g568, g569, g570, g571, rfl, trivial⟩ ?_))
              clear hK574; rintro E ⟨g575, g576, g577, g578, g579, g580, -⟩
              refine block ?_
              refine seq fun K581 hK581 => ?_
              refine reg ?_
              refine s_y (y_eql g580 rfl) rfl ?_
              refine s_y (y_assign (v := (.bool (decide ((x9.do_ : Int) = 0)))) rfl) rfl ?_
              refine s_nil (hK581 _ _ (genC [(1, (.slice (some ⟨ab, ao, none⟩) n c)), (5, (Vp g.tb 0)), (7, (Vi (((i : Nat) : Int)))), (8, (Vp w61.heap.size 0)), (9, (Vi ((x9.b : Int).tmod 4))), (52, (.int .u8 (x9.do_))), (53, (.bool (decide ((x9.do_ : Int) = 0))))] ⟨g575, g576, g577, g578, g579, g580, rfl, trivial⟩ ?_))
              clear hK581; rintro E ⟨g582, g583, g584, g585, g586, g587, g588, -⟩
              refine cond_d g588 (fun c589 => ?_) (fun c589 => ?_)
              · refine regD (fun k => k ∈ sfp g s) (.take 0 (.take 1 (.take 2 (.take 3 (.take 4 (.take 5 (.take 7 (.take 8 (.take 9 (.take 10 (.one 6 (.one 11 .done)))))))))))) mixed (by kernel_rfl) fun w590 hh591 hk592 => ?_
                have ka593 := (Kp.then0 ka88 hk592)
                refine o_y rfl (y_move (v := (Vp g.tb 0)) g583) ?_
                refine o_y rfl (y_move (v := (Vi ((x9.b : Int).tmod 4))) g586) ?_
                refine o_y rfl (y_fld fo57_1 g585) ?_
                have hni594 : w61.heap.size ∉ sfp g s := (fun e => Nat.lt_irrefl _ (nt (STab.lt hi65 _ e) (nl (Nat.le_refl _) (Nat.le_refl _))))
                refine o_y rfl (y_load (v := (u8 x9.a)) rfl (rd_sc sc5 (On.kp (hk592.get0 hb86) hni594) rfl)) ?_
                refine o_y rfl (y_fld fo57_3 g585) ?_
                refine o_y rfl (y_load (v := (Vi (x9.port))) rfl (rd_sc sc3 (On.kp (hk592.get0 hb86) hni594) rfl)) ?_
                refine o_y rfl (y_fld fo57_5 g585) ?_
                refine o_y rfl (y_load (v := (Vi (x9.s))) rfl (rd_sc sc3 (On.kp (hk592.get0 hb86) hni594) rfl)) ?_
                refine o_y rfl (y_fld fo57_6 g585) ?_
                refine o_y rfl (y_load (v := (Vi (x9.d))) rfl (rd_sc sc3 (On.kp (hk592.get0 hb86) hni594) rfl)) ?_
                refine o_one ?_
                refine c_e rfl (e_call ca28 (args := [(u8 x9.a), (Vi (x9.port))]) rfl (peerT_spec x9.a x9.port _)) ?_
                rintro _ w595 ⟨rfl, hk596⟩
                have ka597 := (Kp.then0 ka593 hk596)
                have ks598 : Kp (fun k => k ∈ sfp g s) w590 w595 := (Kp.then0 (Kp.refl _ _) hk596)
                refine ⟨ks598, ?_⟩
                refine o_one ?_
                have hf599 := (STab.k0 (STab.k0 (STab.kp (STab.k0 hi65 hk83) hk87 (fun b hb => (fun e => hni594 (e ▸ hb))) (Nat.ne_of_lt (nt (nt (hT.lt) (nl hk39.size hk62.size)) (Nat.le_refl _)))) hk592) hk596)
                refine c_e rfl (e_call ca27 (args := [(Vp g.tb 0), (Vi ((x9.b : Int).tmod 4)), (.agg #[u8 9, u8 0, u8 0, u8 x9.a, .int .i64 (x9.port)]), (Vi (x9.s)), (Vi (x9.d))]) rfl (add_sx hf599 ⟨by omega, by omega⟩ ((x9.b : Int).tmod 4) ⟨⟨9, 0, 0, x9.a⟩, x9.port⟩ x9.s x9.d (by omega) ⟨hd5, hd6⟩ ⟨hdb, hdc⟩)) ?_
                rintro v600 w601 ⟨s602, -, hn603⟩
                have ka604 := (Kp.fresh ka597 (SNx.kp hn603) fun _ e => nl (Nat.le_refl _) (STab.ge hi65 _ e))
                have ks605 := (Kp.trans ks598 (SNx.kp hn603) fun _ _ e => e)
                refine ⟨ks605, ?_⟩
                have kc606 : Kp (fun k => w.heap.size ≤ k) w61 w81 := (Kp.then0 (Kp.refl _ _) hk83)
                have kc607 : Kp (fun k => w.heap.size ≤ k) w61 w85 := (Kp.trans kc606 hk87 fun _ _ e => (fun e => nl (nl (nl hk39.size hk62.size) (Nat.le_refl _)) (Nat.le_of_eq e.symm)) e)
                have kc608 : Kp (fun k => w.heap.size ≤ k) w61 w590 := (Kp.then0 kc607 hk592)
                have kc609 : Kp (fun k => w.heap.size ≤ k) w61 w595 := (Kp.then0 kc608 hk596)
                have kc610 : Kp (fun k => w.heap.size ≤ k) w61 w601 := (Kp.trans kc609 (SNx.kp hn603) fun _ _ e => STab.ge hi65 _ e)
                have hni611 : w61.heap.size ∉ sfp g s602 := (SNx.notin hn603 hni594 (nt (lt_of_get hb86) (nl hk592.size hk596.size)))
                have hb612 := ((SNx.kp hn603).get (hk596.get0 (hk592.get0 hb86)) hni594)
                exact o_done (hK573 _ _ ⟨⟨g582, g583, g584, g585, trivial⟩, kc610, hb612, _, _, (SNx.tab hn603), (addX_bnd hb9 (by unfold B4; omega)), hni611⟩)
              · refine seq fun K613 hK613 => ?_
                refine seq fun K614 hK614 => ?_
                refine reg ?_
                refine s_y (y_eql g587 rfl) rfl ?_
                refine s_y (y_assign (v := (.bool (decide ((x9.do_ : Int) = 2)))) rfl) rfl ?_
                refine s_nil (hK614 _ _ (genC [(1, (.slice (some ⟨ab, ao, none⟩) n c)), (5, (Vp g.tb 0)), (7, (Vi (((i : Nat) : Int)))), (8, (Vp w61.heap.size 0)), (52, (.int .u8 (x9.do_))), (67, (.bool (decide ((x9.do_ : Int) = 2))))] ⟨g582, g583, g584, g585, g587, rfl, trivial⟩ ?_))
                clear hK614; rintro E ⟨g615, g616, g617, g618, g619, g620, -⟩
                refine cond_d g620 (fun c621 => ?_) (fun c621 => ?_)
                · refine skip (hK613 _ _ (genC [(1, (.slice (some ⟨ab, ao, none⟩) n c)), (5, (Vp g.tb 0)), (7, (Vi (((i : Nat) : Int)))), (8, (Vp w61.heap.size 0)), (52, (.int .u8 (x9.do_))), (67, Vt)] ⟨g615, g616, g617, g618, g619, (Eq.trans g620 (congrArg Value.bool (decide_eq_true c621))), trivial⟩ ?_))
                  clear hK613; rintro E ⟨g622, g623, g624, g625, g626, g627, -⟩
                  refine cond_t g627 ?_
                  refine reg ?_
                  refine s_y (y_move (v := (Vp g.tb 0)) g623) rfl ?_
                  refine s_y (y_fld fo57_4 g625) rfl ?_
                  refine s_y (y_load (v := (Vi (x9.n))) rfl (rd_sc sc3 (On.now hb86) rfl)) rfl ?_
                  have hni628 : w61.heap.size ∉ sfp g s := (fun e => Nat.lt_irrefl _ (nt (STab.lt hi65 _ e) (nl (Nat.le_refl _) (Nat.le_refl _))))
                  have hf629 := (STab.kp (STab.k0 hi65 hk83) hk87 (fun b hb => (fun e => hni628 (e ▸ hb))) (Nat.ne_of_lt (nt (nt (hT.lt) (nl hk39.size hk62.size)) (Nat.le_refl _))))
                  refine s_e (e_call ca29 (args := [(Vp g.tb 0), (Vi (x9.n))]) rfl (drop_sx hf629 x9.n ⟨hd7, hd8⟩)) rfl ?_
                  rintro v630 w631 ⟨s632, -, hn633⟩
                  have ka634 := (Kp.fresh ka88 (SNx.kp hn633) fun _ e => nl (Nat.le_refl _) (STab.ge hi65 _ e))
                  have kc635 : Kp (fun k => w.heap.size ≤ k) w61 w81 := (Kp.then0 (Kp.refl _ _) hk83)
                  have kc636 : Kp (fun k => w.heap.size ≤ k) w61 w85 := (Kp.trans kc635 hk87 fun _ _ e => (fun e => nl (nl (nl hk39.size hk62.size) (Nat.le_refl _)) (Nat.le_of_eq e.symm)) e)
                  have kc637 : Kp (fun k => w.heap.size ≤ k) w61 w631 := (Kp.trans kc636 (SNx.kp hn633) fun _ _ e => STab.ge hi65 _ e)
                  have hni638 : w61.heap.size ∉ sfp g s632 := (SNx.notin hn633 hni628 (lt_of_get hb86))
                  have hb639 := ((SNx.kp hn633).get hb86 hni628)
                  exact s_nil (hK573 _ _ ⟨⟨g622, g623, g624, g625, trivial⟩, kc637, hb639, _, _, (SNx.tab hn633), (dropX_bnd hb9), hni638⟩)
                · refine reg ?_
                  refine s_y (y_eql g619 rfl) rfl ?_
                  refine s_y (y_assign (v := (.bool (decide ((x9.do_ : Int) = 5)))) rfl) rfl ?_
                  refine s_nil (hK613 _ _ (genC [(1, (.slice (some ⟨ab, ao, none⟩) n c)), (5, (Vp g.tb 0)), (7, (Vi (((i : Nat) : Int)))), (8, (Vp w61.heap.size 0)), (52, (.int .u8 (x9.do_))), (67, (.bool (decide ((x9.do_ : Int) = 5))))] ⟨g615, g616, g617, g618, g619, rfl, trivial⟩ ?_))
                  clear hK613; rintro E ⟨g640, g641, g642, g643, g644, g645, -⟩
                  refine cond_d g645 (fun c646 => ?_) (fun c646 => ?_)
                  · refine reg ?_
                    refine s_y (y_move (v := (Vp g.tb 0)) g641) rfl ?_
                    refine s_y (y_fld fo57_4 g643) rfl ?_
                    refine s_y (y_load (v := (Vi (x9.n))) rfl (rd_sc sc3 (On.now hb86) rfl)) rfl ?_
                    have hni647 : w61.heap.size ∉ sfp g s := (fun e => Nat.lt_irrefl _ (nt (STab.lt hi65 _ e) (nl (Nat.le_refl _) (Nat.le_refl _))))
                    have hf648 := (STab.kp (STab.k0 hi65 hk83) hk87 (fun b hb => (fun e => hni647 (e ▸ hb))) (Nat.ne_of_lt (nt (nt (hT.lt) (nl hk39.size hk62.size)) (Nat.le_refl _))))
                    refine s_e (e_call ca29 (args := [(Vp g.tb 0), (Vi (x9.n))]) rfl (drop_sx hf648 x9.n ⟨hd7, hd8⟩)) rfl ?_
                    rintro v649 w650 ⟨s651, -, hn652⟩
                    have ka653 := (Kp.fresh ka88 (SNx.kp hn652) fun _ e => nl (Nat.le_refl _) (STab.ge hi65 _ e))
                    have kc654 : Kp (fun k => w.heap.size ≤ k) w61 w81 := (Kp.then0 (Kp.refl _ _) hk83)
                    have kc655 : Kp (fun k => w.heap.size ≤ k) w61 w85 := (Kp.trans kc654 hk87 fun _ _ e => (fun e => nl (nl (nl hk39.size hk62.size) (Nat.le_refl _)) (Nat.le_of_eq e.symm)) e)
                    have kc656 : Kp (fun k => w.heap.size ≤ k) w61 w650 := (Kp.trans kc655 (SNx.kp hn652) fun _ _ e => STab.ge hi65 _ e)
                    have hni657 : w61.heap.size ∉ sfp g s651 := (SNx.notin hn652 hni647 (lt_of_get hb86))
                    have hb658 := ((SNx.kp hn652).get hb86 hni647)
                    exact s_nil (hK573 _ _ ⟨⟨g640, g641, g642, g643, trivial⟩, kc656, hb658, _, _, (SNx.tab hn652), (dropX_bnd hb9), hni657⟩)
                  · refine seq fun K659 hK659 => ?_
                    refine reg ?_
                    refine s_y (y_eql g644 rfl) rfl ?_
                    refine s_y (y_assign (v := (.bool (decide ((x9.do_ : Int) = 3)))) rfl) rfl ?_
                    refine s_nil (hK659 _ _ (genC [(1, (.slice (some ⟨ab, ao, none⟩) n c)), (5, (Vp g.tb 0)), (7, (Vi (((i : Nat) : Int)))), (8, (Vp w61.heap.size 0)), (74, (.bool (decide ((x9.do_ : Int) = 3))))] ⟨g640, g641, g642, g643, rfl, trivial⟩ ?_))
                    clear hK659; rintro E ⟨g660, g661, g662, g663, g664, -⟩
                    refine cond_d g664 (fun c665 => ?_) (fun c665 => ?_)
                    · refine reg ?_
                      refine s_y (y_move (v := (Vp g.tb 0)) g661) rfl ?_
                      refine s_y (y_fld fo57_6 g663) rfl ?_
                      refine s_y (y_load (v := (Vi (x9.d))) rfl (rd_sc sc3 (On.now hb86) rfl)) rfl ?_
                      have hni666 : w61.heap.size ∉ sfp g s := (fun e => Nat.lt_irrefl _ (nt (STab.lt hi65 _ e) (nl (Nat.le_refl _) (Nat.le_refl _))))
                      have hf667 := (STab.kp (STab.k0 hi65 hk83) hk87 (fun b hb => (fun e => hni666 (e ▸ hb))) (Nat.ne_of_lt (nt (nt (hT.lt) (nl hk39.size hk62.size)) (Nat.le_refl _))))
                      refine s_e (e_call ca30 (args := [(Vp g.tb 0), (Vi (x9.d))]) rfl (pop_sx hf667 x9.d)) rfl ?_
                      rintro v668 w669 ⟨s670, _, -, -, -, hn671⟩
                      have ka672 := (Kp.fresh ka88 (SNx.kp hn671) fun _ e => nl (Nat.le_refl _) (STab.ge hi65 _ e))
                      have kc673 : Kp (fun k => w.heap.size ≤ k) w61 w81 := (Kp.then0 (Kp.refl _ _) hk83)
                      have kc674 : Kp (fun k => w.heap.size ≤ k) w61 w85 := (Kp.trans kc673 hk87 fun _ _ e => (fun e => nl (nl (nl hk39.size hk62.size) (Nat.le_refl _)) (Nat.le_of_eq e.symm)) e)
                      have kc675 : Kp (fun k => w.heap.size ≤ k) w61 w669 := (Kp.trans kc674 (SNx.kp hn671) fun _ _ e => STab.ge hi65 _ e)
                      have hni676 : w61.heap.size ∉ sfp g s670 := (SNx.notin hn671 hni666 (lt_of_get hb86))
                      have hb677 := ((SNx.kp hn671).get hb86 hni666)
                      exact s_nil (hK573 _ _ ⟨⟨g660, g661, g662, g663, trivial⟩, kc675, hb677, _, _, (SNx.tab hn671), (popX_bnd hb9), hni676⟩)
                    · have kc678 : Kp (fun k => w.heap.size ≤ k) w61 w81 := (Kp.then0 (Kp.refl _ _) hk83)
                      have kc679 : Kp (fun k => w.heap.size ≤ k) w61 w85 := (Kp.trans kc678 hk87 fun _ _ e => (fun e => nl (nl (nl hk39.size hk62.size) (Nat.le_refl _)) (Nat.le_of_eq e.symm)) e)
                      have hni680 : w61.heap.size ∉ sfp g s := (fun e => Nat.lt_irrefl _ (nt (STab.lt hi65 _ e) (nl (Nat.le_refl _) (Nat.le_refl _))))
                      have hf681 := (STab.kp (STab.k0 hi65 hk83) hk87 (fun b hb => (fun e => hni680 (e ▸ hb))) (Nat.ne_of_lt (nt (nt (hT.lt) (nl hk39.size hk62.size)) (Nat.le_refl _))))
                      exact skip (hK573 _ _ ⟨⟨g660, g661, g662, g663, trivial⟩, kc679, hb86, _, _, (hf681.mono (by omega)), hb9, hni680⟩)
            · rintro E w686 ⟨⟨g682, g683, g684, g685, -⟩, hk687, hbx9, a2, s2, ht2, hb2, hni2⟩
              have ka688 := (Kp.fresh ka67 hk687 fun _ e => nl (Nat.le_refl _) e)
              refine seq fun K689 hK689 => ?_
              refine reg ?_
              refine s_y (y_assign (v := (Vi 0)) rfl) rfl ?_
              refine s_nil (hK689 _ _ (genC [(1, (.slice (some ⟨ab, ao, none⟩) n c)), (5, (Vp g.tb 0)), (7, (Vi (((i : Nat) : Int)))), (8, (Vp w61.heap.size 0)), (10, (Vi 0))] ⟨g682, g683, g684, g685, rfl, trivial⟩ ?_))
              clear hK689; rintro E ⟨g690, g691, g692, g693, g694, -⟩
              refine seq fun K695 hK695 => ?_
              refine seq fun K696 hK696 => ?_
              refine reg ?_
              refine s_y (y_assign (v := (Vi 0)) rfl) rfl ?_
              refine s_nil (hK696 _ _ (genC [(1, (.slice (some ⟨ab, ao, none⟩) n c)), (5, (Vp g.tb 0)), (7, (Vi (((i : Nat) : Int)))), (8, (Vp w61.heap.size 0)), (10, (Vi 0)), (11, (Vi 0))] ⟨g690, g691, g692, g693, g694, rfl, trivial⟩ ?_))
              clear hK696; rintro E ⟨g697, g698, g699, g700, g701, g702, -⟩
              refine block ?_
              have hq7 := STab.smallL ht2
              refine loopG (X := Nat) (fun q_ E w_ => Has E [(1, (.slice (some ⟨ab, ao, none⟩) n c)), (5, (Vp g.tb 0)), (7, (Vi (((i : Nat) : Int)))), (8, (Vp w61.heap.size 0)), (10, (Vi ((((sumB a2.L q_) : Nat) : Int)))), (11, (Vi (((q_ : Nat) : Int))))] ∧ Kp (fun _ => False) w686 w_ ∧ (q_ ≤ 4)) (fun q_ => (4 - q_)) 0 ⟨⟨g697, g698, g699, g700, g701, g702, trivial⟩, Kp.refl _ _, (show 0 ≤ 4 from (Nat.zero_le _))⟩ ?_
              rintro k E w709 ⟨⟨g703, g704, g705, g706, g707, g708, -⟩, hk710, hi712⟩ K711 hK711
              replace hi712 : k ≤ 4 := hi712
              have ka713 := (Kp.then0 ka688 hk710)
              have hk9 := hi712
              refine seq fun K714 hK714 => ?_
              refine seq fun K715 hK715 => ?_
              refine reg ?_
              refine s_y (y_move (v := (Vi (((k : Nat) : Int)))) g708) rfl ?_
              refine s_y (y_lss rfl rfl) rfl ?_
              refine s_nil (hK715 _ _ (genC [(1, (.slice (some ⟨ab, ao, none⟩) n c)), (5, (Vp g.tb 0)), (7, (Vi (((i : Nat) : Int)))), (8, (Vp w61.heap.size 0)), (10, (Vi ((((sumB a2.L k) : Nat) : Int)))), (11, (Vi (((k : Nat) : Int)))), (81, (.bool (decide ((((k : Nat) : Int) : Int) < 4))))] ⟨g703, g704, g705, g706, g707, g708, rfl, trivial⟩ ?_))
              clear hK715; rintro E ⟨g716, g717, g718, g719, g720, g721, g722, -⟩
              refine cond_d g722 (fun c723 => ?_) (fun c723 => ?_)
              · refine skip (hK714 _ _ (genC [(1, (.slice (some ⟨ab, ao, none⟩) n c)), (5, (Vp g.tb 0)), (7, (Vi (((i : Nat) : Int)))), (8, (Vp w61.heap.size 0)), (10, (Vi ((((sumB a2.L k) : Nat) : Int)))), (11, (Vi (((k : Nat) : Int))))] ⟨g716, g717, g718, g719, g720, g721, trivial⟩ ?_))
                clear hK714; rintro E ⟨g724, g725, g726, g727, g728, g729, -⟩
                refine seq fun K730 hK730 => ?_
                refine block ?_
                refine seq fun K731 hK731 => ?_
                refine reg ?_
                refine s_y (y_move (v := (Vp g.tb 0)) g725) rfl ?_
                refine s_y (y_move (v := (Vi (((k : Nat) : Int)))) g729) rfl ?_
                have hf732 := (STab.k0 ht2 hk710)
                refine s_e (e_call ca31 (args := [(Vp g.tb 0), (Vi (((k : Nat) : Int)))]) rfl (of_sx hf732 ((k : Nat) : Int) (by omega))) rfl ?_
                rintro _ w733 ⟨⟨ys734, hp735, -, ⟨hz736, rfl⟩ | ⟨rb737, cap738, rfl, hC739, hf740⟩⟩, hk741⟩
                · have hq9 : ys734.length = cntB a2.L (k : Int) := List.Perm.length_eq hp735; have hq8 : sumB a2.L k + cntB a2.L (k : Int) ≤ a2.L.length := sumB_le a2.L (k + 1)
                  have hq6 : cntB a2.L (k : Int) = 0 := by rw [← hq9, hz736]; rfl
                  have ka742 := (Kp.then0 ka713 hk741)
                  refine s_y (y_assign (v := (.slice none 0 0)) rfl) rfl ?_
                  refine s_nil (hK731 _ _ (genC [(1, (.slice (some ⟨ab, ao, none⟩) n c)), (5, (Vp g.tb 0)), (7, (Vi (((i : Nat) : Int)))), (8, (Vp w61.heap.size 0)), (10, (Vi ((((sumB a2.L k) : Nat) : Int)))), (11, (Vi (((k : Nat) : Int)))), (12, (.slice none 0 0))] ⟨g724, g725, g726, g727, g728, g729, rfl, trivial⟩ ?_))
                  clear hK731; rintro E ⟨g743, g744, g745, g746, g747, g748, g749, -⟩
                  refine seq fun K750 hK750 => ?_
                  refine reg ?_
                  refine s_y (y_move (v := (Vi ((((sumB a2.L k) : Nat) : Int)))) g747) rfl ?_
                  refine s_y (y_move (v := (.slice none 0 0)) g749) rfl ?_
                  refine s_y (y_lenS so63 rfl) rfl ?_
                  refine s_y (y_add rfl rfl (c := (((sumB a2.L k) : Nat) : Int) + ((0 : Nat) : Int)) (by omega) rfl) rfl ?_
                  refine s_y (y_assign (v := (Vi ((((sumB a2.L k) : Nat) : Int) + ((0 : Nat) : Int)))) rfl) rfl ?_
                  refine s_nil (hK750 _ _ (genC [(1, (.slice (some ⟨ab, ao, none⟩) n c)), (5, (Vp g.tb 0)), (7, (Vi (((i : Nat) : Int)))), (8, (Vp w61.heap.size 0)), (10, (Vi ((((sumB a2.L k) : Nat) : Int) + ((0 : Nat) : Int)))), (11, (Vi (((k : Nat) : Int)))), (12, (.slice none 0 0))] ⟨g743, g744, g745, g746, rfl, g748, g749, trivial⟩ ?_))
                  clear hK750; rintro E ⟨g751, g752, g753, g754, g755, g756, g757, -⟩
                  refine seq fun K758 hK758 => ?_
                  refine reg ?_
                  refine s_y (y_assign (v := Vf) rfl) rfl ?_
                  refine s_nil (hK758 _ _ (genC [(1, (.slice (some ⟨ab, ao, none⟩) n c)), (5, (Vp g.tb 0)), (7, (Vi (((i : Nat) : Int)))), (8, (Vp w61.heap.size 0)), (10, (Vi ((((sumB a2.L k) : Nat) : Int) + ((0 : Nat) : Int)))), (11, (Vi (((k : Nat) : Int)))), (12, (.slice none 0 0)), (13, Vf)] ⟨g751, g752, g753, g754, g755, g756, g757, rfl, trivial⟩ ?_))
                  clear hK758; rintro E ⟨g759, g760, g761, g762, g763, g764, g765, g766, -⟩
                  refine seq fun K767 hK767 => ?_
                  refine seq fun K768 hK768 => ?_
                  refine reg ?_
                  refine s_y (y_assign (v := (Vi 0)) rfl) rfl ?_
                  refine s_nil (hK768 _ _ (genC [(1, (.slice (some ⟨ab, ao, none⟩) n c)), (5, (Vp g.tb 0)), (7, (Vi (((i : Nat) : Int)))), (8, (Vp w61.heap.size 0)), (10, (Vi ((((sumB a2.L k) : Nat) : Int) + ((0 : Nat) : Int)))), (11, (Vi (((k : Nat) : Int)))), (12, (.slice none 0 0)), (13, Vf), (14, (Vi 0))] ⟨g759, g760, g761, g762, g763, g764, g765, g766, rfl, trivial⟩ ?_))
                  clear hK768; rintro E ⟨g769, g770, g771, g772, g773, g774, g775, g776, g777, -⟩
                  refine block ?_
                  refine loopG (X := Nat) (fun q_ E w_ => Has E [(1, (.slice (some ⟨ab, ao, none⟩) n c)), (5, (Vp g.tb 0)), (7, (Vi (((i : Nat) : Int)))), (8, (Vp w61.heap.size 0)), (10, (Vi ((((sumB a2.L k) : Nat) : Int) + ((0 : Nat) : Int)))), (11, (Vi (((k : Nat) : Int)))), (12, (.slice none 0 0)), (13, Vf), (14, (Vi (((q_ : Nat) : Int))))] ∧ Kp (fun _ => False) w733 w_ ∧ (q_ = 0)) (fun q_ => q_) 0 ⟨⟨g769, g770, g771, g772, g773, g774, g775, g776, g777, trivial⟩, Kp.refl _ _, (show 0 = 0 from rfl)⟩ ?_
                  rintro j E w787 ⟨⟨g778, g779, g780, g781, g782, g783, g784, g785, g786, -⟩, hk788, hi790⟩ K789 hK789
                  replace hi790 : j = 0 := hi790
                  have ka791 := (Kp.then0 ka742 hk788)
                  refine seq fun K792 hK792 => ?_
                  refine seq fun K793 hK793 => ?_
                  refine reg ?_
                  refine s_y (y_move (v := (Vi (((j : Nat) : Int)))) g786) rfl ?_
                  refine s_y (y_move (v := (.slice none 0 0)) g784) rfl ?_
                  refine s_y (y_lenS so63 rfl) rfl ?_
                  refine s_y (y_lss rfl rfl) rfl ?_
                  refine s_nil (hK793 _ _ (genC [(1, (.slice (some ⟨ab, ao, none⟩) n c)), (5, (Vp g.tb 0)), (7, (Vi (((i : Nat) : Int)))), (8, (Vp w61.heap.size 0)), (10, (Vi ((((sumB a2.L k) : Nat) : Int) + ((0 : Nat) : Int)))), (11, (Vi (((k : Nat) : Int)))), (12, (.slice none 0 0)), (13, Vf), (14, (Vi (((j : Nat) : Int)))), (94, (.bool (decide ((((j : Nat) : Int) : Int) < ((0 : Nat) : Int)))))] ⟨g778, g779, g780, g781, g782, g783, g784, g785, g786, rfl, trivial⟩ ?_))
                  clear hK793; rintro E ⟨g794, g795, g796, g797, g798, g799, g800, g801, g802, g803, -⟩
                  refine cond_d g803 (fun c804 => ?_) (fun c804 => ?_)
                  · omega
                  · refine exit (hK767 _ _ (genC [(1, (.slice (some ⟨ab, ao, none⟩) n c)), (5, (Vp g.tb 0)), (7, (Vi (((i : Nat) : Int)))), (8, (Vp w61.heap.size 0)), (10, (Vi ((((sumB a2.L k) : Nat) : Int) + ((0 : Nat) : Int)))), (11, (Vi (((k : Nat) : Int)))), (13, Vf)] ⟨g794, g795, g796, g797, g798, g799, g801, trivial⟩ ?_))
                    clear hK767; rintro E ⟨g805, g806, g807, g808, g809, g810, g811, -⟩
                    refine seq fun K812 hK812 => ?_
                    refine reg ?_
                    refine s_y (y_move (v := (Vp g.tb 0)) g806) rfl ?_
                    refine s_y (y_move (v := (Vi (((k : Nat) : Int)))) g810) rfl ?_
                    refine s_y (y_fld fo57_1 g808) rfl ?_
                    have hb813 := (hk788.get0 (hk741.get0 (hk710.get0 hbx9)))
                    refine s_y (y_load (v := (u8 x9.a)) rfl (rd_sc sc5 (On.now hb813) rfl)) rfl ?_
                    refine s_e (e_call ca28 (args := [(u8 x9.a), (Vi 0)]) rfl (peerT_spec x9.a 0 _)) rfl ?_
                    rintro _ w814 ⟨rfl, hk815⟩
                    have ka816 := (Kp.then0 ka791 hk815)
                    refine s_y (y_field (v := (.agg #[u8 9, u8 0, u8 0, u8 x9.a])) rfl (fun _ => by kernel_rfl)) rfl ?_
                    have he9 : ((a2.L.filter fun x => decide (x.binding = ((k : Nat) : Int))).any (fun x : Session => decide (x.peer.addr = ⟨9, 0, 0, x9.a⟩))) = false := by rw [← any_perm hp735, hz736]; rfl
                    have hf817 := (STab.k0 (STab.k0 (STab.k0 hf732 hk741) hk788) hk815)
                    refine s_e (e_call ca32 (args := [(Vp g.tb 0), (Vi (((k : Nat) : Int))), (.agg #[u8 9, u8 0, u8 0, u8 x9.a])]) rfl (knows_sx hf817 ((k : Nat) : Int) ⟨9, 0, 0, x9.a⟩ (by omega))) rfl ?_
                    rintro _ w818 ⟨rfl, hk819⟩
                    have ka820 := (Kp.then0 ka816 hk819)
                    refine s_y (y_move (v := Vf) g811) rfl ?_
                    refine s_y (y_bneq Tryd.underlying4 rfl rfl) rfl ?_
                    refine s_nil (hK812 _ _ (genC [(1, (.slice (some ⟨ab, ao, none⟩) n c)), (5, (Vp g.tb 0)), (7, (Vi (((i : Nat) : Int)))), (8, (Vp w61.heap.size 0)), (10, (Vi ((((sumB a2.L k) : Nat) : Int) + ((0 : Nat) : Int)))), (11, (Vi (((k : Nat) : Int)))), (126, (.bool (!(((a2.L.filter fun x => decide (x.binding = ((k : Nat) : Int))).any (fun x : Session => decide (x.peer.addr = ⟨9, 0, 0, x9.a⟩))) == false))))] ⟨g805, g806, g807, g808, g809, g810, rfl, trivial⟩ ?_))
                    clear hK812; rintro E ⟨g821, g822, g823, g824, g825, g826, g827, -⟩
                    refine cond_b g827 (fun c828 => ?_) (fun c828 => ?_)
                    · exact (ne_dead he9 c828).elim
                    · refine skip (hK730 _ _ (genC [(1, (.slice (some ⟨ab, ao, none⟩) n c)), (5, (Vp g.tb 0)), (7, (Vi (((i : Nat) : Int)))), (8, (Vp w61.heap.size 0)), (10, (Vi ((((sumB a2.L k) : Nat) : Int) + ((0 : Nat) : Int)))), (11, (Vi (((k : Nat) : Int))))] ⟨g821, g822, g823, g824, g825, g826, trivial⟩ ?_))
                      clear hK730; rintro E ⟨g829, g830, g831, g832, g833, g834, -⟩
                      refine reg ?_
                      refine s_y (y_move (v := (Vi (((k : Nat) : Int)))) g834) rfl ?_
                      refine s_y (y_add rfl rfl (c := ((k : Nat) : Int) + 1) (by omega) rfl) rfl ?_
                      refine s_y (y_assign (v := (Vi (((k : Nat) : Int) + 1))) rfl) rfl ?_
                      have kc835 : Kp (fun _ => False) w686 w709 := (Kp.then0 (Kp.refl _ _) hk710)
                      have kc836 : Kp (fun _ => False) w686 w733 := (Kp.then0 kc835 hk741)
                      have kc837 : Kp (fun _ => False) w686 w787 := (Kp.then0 kc836 hk788)
                      have kc838 : Kp (fun _ => False) w686 w814 := (Kp.then0 kc837 hk815)
                      have kc839 : Kp (fun _ => False) w686 w818 := (Kp.then0 kc838 hk819)
                      exact s_nil (hK711 (k + 1) _ _ ⟨⟨g829, g830, g831, g832, (Eq.trans g833 (congrArg (Value.int .i64) (by show _ = ((sumB a2.L k + cntB a2.L (k : Int) : Nat) : Int); omega))), rfl, trivial⟩, kc839, (show (k + 1) ≤ 4 from (by omega))⟩ (by show (4 - (k + 1)) < (4 - k); omega))
                · have hq9 : ys734.length = cntB a2.L (k : Int) := List.Perm.length_eq hp735; have hq8 : sumB a2.L k + cntB a2.L (k : Int) ≤ a2.L.length := sumB_le a2.L (k + 1)
                  have ka840 := (Kp.then0 ka713 hk741)
                  refine s_y (y_assign (v := (.slice (some ⟨rb737, 0, none⟩) ys734.length cap738)) rfl) rfl ?_
                  refine s_nil (hK731 _ _ (genC [(1, (.slice (some ⟨ab, ao, none⟩) n c)), (5, (Vp g.tb 0)), (7, (Vi (((i : Nat) : Int)))), (8, (Vp w61.heap.size 0)), (10, (Vi ((((sumB a2.L k) : Nat) : Int)))), (11, (Vi (((k : Nat) : Int)))), (12, (.slice (some ⟨rb737, 0, none⟩) ys734.length cap738))] ⟨g724, g725, g726, g727, g728, g729, rfl, trivial⟩ ?_))
                  clear hK731; rintro E ⟨g841, g842, g843, g844, g845, g846, g847, -⟩
                  refine seq fun K848 hK848 => ?_
                  refine reg ?_
                  refine s_y (y_move (v := (Vi ((((sumB a2.L k) : Nat) : Int)))) g845) rfl ?_
                  refine s_y (y_move (v := (.slice (some ⟨rb737, 0, none⟩) ys734.length cap738)) g847) rfl ?_
                  refine s_y (y_lenS so63 rfl) rfl ?_
                  refine s_y (y_add rfl rfl (c := (((sumB a2.L k) : Nat) : Int) + ((ys734.length : Nat) : Int)) (by omega) rfl) rfl ?_
                  refine s_y (y_assign (v := (Vi ((((sumB a2.L k) : Nat) : Int) + ((ys734.length : Nat) : Int)))) rfl) rfl ?_
                  refine s_nil (hK848 _ _ (genC [(1, (.slice (some ⟨ab, ao, none⟩) n c)), (5, (Vp g.tb 0)), (7, (Vi (((i : Nat) : Int)))), (8, (Vp w61.heap.size 0)), (10, (Vi ((((sumB a2.L k) : Nat) : Int) + ((ys734.length : Nat) : Int)))), (11, (Vi (((k : Nat) : Int)))), (12, (.slice (some ⟨rb737, 0, none⟩) ys734.length cap738))] ⟨g841, g842, g843, g844, rfl, g846, g847, trivial⟩ ?_))
                  clear hK848; rintro E ⟨g849, g850, g851, g852, g853, g854, g855, -⟩
                  refine seq fun K856 hK856 => ?_
                  refine reg ?_
                  refine s_y (y_assign (v := Vf) rfl) rfl ?_
                  refine s_nil (hK856 _ _ (genC [(1, (.slice (some ⟨ab, ao, none⟩) n c)), (5, (Vp g.tb 0)), (7, (Vi (((i : Nat) : Int)))), (8, (Vp w61.heap.size 0)), (10, (Vi ((((sumB a2.L k) : Nat) : Int) + ((ys734.length : Nat) : Int)))), (11, (Vi (((k : Nat) : Int)))), (12, (.slice (some ⟨rb737, 0, none⟩) ys734.length cap738)), (13, Vf)] ⟨g849, g850, g851, g852, g853, g854, g855, rfl, trivial⟩ ?_))
                  clear hK856; rintro E ⟨g857, g858, g859, g860, g861, g862, g863, g864, -⟩
                  refine seq fun K865 hK865 => ?_
                  refine seq fun K866 hK866 => ?_
                  refine reg ?_
                  refine s_y (y_assign (v := (Vi 0)) rfl) rfl ?_
                  refine s_nil (hK866 _ _ (genC [(1, (.slice (some ⟨ab, ao, none⟩) n c)), (5, (Vp g.tb 0)), (7, (Vi (((i : Nat) : Int)))), (8, (Vp w61.heap.size 0)), (10, (Vi ((((sumB a2.L k) : Nat) : Int) + ((ys734.length : Nat) : Int)))), (11, (Vi (((k : Nat) : Int)))), (12, (.slice (some ⟨rb737, 0, none⟩) ys734.length cap738)), (13, Vf), (14, (Vi 0))] ⟨g857, g858, g859, g860, g861, g862, g863, g864, rfl, trivial⟩ ?_))
                  clear hK866; rintro E ⟨g867, g868, g869, g870, g871, g872, g873, g874, g875, -⟩
                  refine block ?_
                  refine loopG (X := Nat × Bool) (fun q_ E w_ => Has E [(1, (.slice (some ⟨ab, ao, none⟩) n c)), (5, (Vp g.tb 0)), (7, (Vi (((i : Nat) : Int)))), (8, (Vp w61.heap.size 0)), (10, (Vi ((((sumB a2.L k) : Nat) : Int) + ((ys734.length : Nat) : Int)))), (11, (Vi (((k : Nat) : Int)))), (12, (.slice (some ⟨rb737, 0, none⟩) ys734.length cap738)), (13, (.bool (q_.2))), (14, (Vi (((q_.1 : Nat) : Int))))] ∧ Kp (fun _ => False) w733 w_ ∧ (q_.1 ≤ ys734.length) ∧ (q_.2 = (ys734.take q_.1).any (fun x : Session => decide (x.peer.addr = ⟨9, 0, 0, x9.a⟩)))) (fun q_ => (ys734.length - q_.1)) (0, false) ⟨⟨g867, g868, g869, g870, g871, g872, g873, g874, g875, trivial⟩, Kp.refl _ _, (show 0 ≤ ys734.length from (Nat.zero_le _)), (show false = (ys734.take 0).any (fun x : Session => decide (x.peer.addr = ⟨9, 0, 0, x9.a⟩)) from rfl)⟩ ?_
                  rintro ⟨j, kn⟩ E w885 ⟨⟨g876, g877, g878, g879, g880, g881, g882, g883, g884, -⟩, hk886, hi888, hi889⟩ K887 hK887
                  replace g876 : E 1 = (.slice (some ⟨ab, ao, none⟩) n c) := g876
                  replace g877 : E 5 = (Vp g.tb 0) := g877
                  replace g878 : E 7 = (Vi (((i : Nat) : Int))) := g878
                  replace g879 : E 8 = (Vp w61.heap.size 0) := g879
                  replace g880 : E 10 = (Vi ((((sumB a2.L k) : Nat) : Int) + ((ys734.length : Nat) : Int))) := g880
                  replace g881 : E 11 = (Vi (((k : Nat) : Int))) := g881
                  replace g882 : E 12 = (.slice (some ⟨rb737, 0, none⟩) ys734.length cap738) := g882
                  replace g883 : E 13 = (.bool (kn)) := g883
                  replace g884 : E 14 = (Vi (((j : Nat) : Int))) := g884
                  replace hi888 : j ≤ ys734.length := hi888
                  replace hi889 : kn = (ys734.take j).any (fun x : Session => decide (x.peer.addr = ⟨9, 0, 0, x9.a⟩)) := hi889
                  have ka890 := (Kp.then0 ka840 hk886)
                  have hj9 := hi888; have hkn9 := hi889
                  refine seq fun K891 hK891 => ?_
                  refine seq fun K892 hK892 => ?_
                  refine reg ?_
                  refine s_y (y_move (v := (Vi (((j : Nat) : Int)))) g884) rfl ?_
                  refine s_y (y_move (v := (.slice (some ⟨rb737, 0, none⟩) ys734.length cap738)) g882) rfl ?_
                  refine s_y (y_lenS so63 rfl) rfl ?_
                  refine s_y (y_lss rfl rfl) rfl ?_
                  refine s_nil (hK892 _ _ (genC [(1, (.slice (some ⟨ab, ao, none⟩) n c)), (5, (Vp g.tb 0)), (7, (Vi (((i : Nat) : Int)))), (8, (Vp w61.heap.size 0)), (10, (Vi ((((sumB a2.L k) : Nat) : Int) + ((ys734.length : Nat) : Int)))), (11, (Vi (((k : Nat) : Int)))), (12, (.slice (some ⟨rb737, 0, none⟩) ys734.length cap738)), (13, (.bool (kn))), (14, (Vi (((j : Nat) : Int)))), (94, (.bool (decide ((((j : Nat) : Int) : Int) < ((ys734.length : Nat) : Int)))))] ⟨g876, g877, g878, g879, g880, g881, g882, g883, g884, rfl, trivial⟩ ?_))
                  clear hK892; rintro E ⟨g893, g894, g895, g896, g897, g898, g899, g900, g901, g902, -⟩
                  refine cond_d g902 (fun c903 => ?_) (fun c903 => ?_)
                  · obtain ⟨z9, hz9⟩ : ∃ x, ys734[j]? = some x := ⟨_, List.getElem?_eq_getElem (by omega)⟩
                    have hzb9 : z9.binding = ((k : Nat) : Int) := by have h9 := (List.mem_filter.1 (List.Perm.mem_iff hp735 |>.1 (List.mem_of_getElem? hz9))).2; simpa using h9
                    refine skip (hK891 _ _ (genC [(1, (.slice (some ⟨ab, ao, none⟩) n c)), (5, (Vp g.tb 0)), (7, (Vi (((i : Nat) : Int)))), (8, (Vp w61.heap.size 0)), (10, (Vi ((((sumB a2.L k) : Nat) : Int) + ((ys734.length : Nat) : Int)))), (11, (Vi (((k : Nat) : Int)))), (12, (.slice (some ⟨rb737, 0, none⟩) ys734.length cap738)), (13, (.bool (kn))), (14, (Vi (((j : Nat) : Int))))] ⟨g893, g894, g895, g896, g897, g898, g899, g900, g901, trivial⟩ ?_))
                    clear hK891; rintro E ⟨g904, g905, g906, g907, g908, g909, g910, g911, g912, -⟩
                    refine seq fun K913 hK913 => ?_
                    refine block ?_
                    refine seq fun K914 hK914 => ?_
                    refine seq fun K915 hK915 => ?_
                    refine reg ?_
                    refine s_y (y_move (v := (.slice (some ⟨rb737, 0, none⟩) ys734.length cap738)) g910) rfl ?_
                    refine s_y (y_move (v := (Vi (((j : Nat) : Int)))) g912) rfl ?_
                    refine s_y (y_idx so63 sz59 rfl (i := j) rfl (by omega)) rfl ?_
                    refine s_y (y_fld fo59_1 rfl) rfl ?_
                    have hf916 := (hC739.kp hk886 id)
                    refine s_y (y_load (v := (Vi (z9.binding))) rfl (rd_ef sc3 (EltsOn.now (OwnC.elts hf916)) hz9 rfl)) rfl ?_
                    refine s_y (y_move (v := (Vi (((k : Nat) : Int)))) g909) rfl ?_
                    refine s_y (y_neq rfl rfl) rfl ?_
                    refine s_nil (hK915 _ _ (genC [(1, (.slice (some ⟨ab, ao, none⟩) n c)), (5, (Vp g.tb 0)), (7, (Vi (((i : Nat) : Int)))), (8, (Vp w61.heap.size 0)), (10, (Vi ((((sumB a2.L k) : Nat) : Int) + ((ys734.length : Nat) : Int)))), (11, (Vi (((k : Nat) : Int)))), (12, (.slice (some ⟨rb737, 0, none⟩) ys734.length cap738)), (13, (.bool (kn))), (14, (Vi (((j : Nat) : Int)))), (103, (.bool (decide ((z9.binding : Int) ≠ ((k : Nat) : Int)))))] ⟨g904, g905, g906, g907, g908, g909, g910, g911, g912, rfl, trivial⟩ ?_))
                    clear hK915; rintro E ⟨g917, g918, g919, g920, g921, g922, g923, g924, g925, g926, -⟩
                    refine cond_d g926 (fun c927 => ?_) (fun c927 => ?_)
                    · exact absurd hzb9 c927
                    · refine skip (hK914 _ _ (genC [(1, (.slice (some ⟨ab, ao, none⟩) n c)), (5, (Vp g.tb 0)), (7, (Vi (((i : Nat) : Int)))), (8, (Vp w61.heap.size 0)), (10, (Vi ((((sumB a2.L k) : Nat) : Int) + ((ys734.length : Nat) : Int)))), (11, (Vi (((k : Nat) : Int)))), (12, (.slice (some ⟨rb737, 0, none⟩) ys734.length cap738)), (13, (.bool (kn))), (14, (Vi (((j : Nat) : Int))))] ⟨g917, g918, g919, g920, g921, g922, g923, g924, g925, trivial⟩ ?_))
                      clear hK914; rintro E ⟨g928, g929, g930, g931, g932, g933, g934, g935, g936, -⟩
                      refine regD (fun _ => False) (.take 0 (.take 1 (.take 2 (.take 3 (.take 4 (.take 5 (.take 6 (.take 7 (.take 8 (.take 9 (.one 10 (.take 11 (.take 12 (.take 13 (.take 14 .done))))))))))))))) mixed (by kernel_rfl) fun w937 hh938 hk939 => ?_
                      have ka940 := (Kp.then0 ka890 hk939)
                      refine o_y rfl (y_move (v := (.bool (kn))) g935) ?_
                      refine o_y rfl (y_move (v := (.bool (kn))) rfl) ?_
                      refine (Bool.eq_false_or_eq_true (kn)).elim (fun c941 => ?_) (fun c941 => ?_)
                      · refine o_no rfl (.no rfl (c := true) (congrArg Value.bool c941) rfl) ?_
                        refine o_no rfl (.no rfl (c := true) (congrArg Value.bool c941) rfl) ?_
                        refine o_no rfl (.no rfl (c := true) (congrArg Value.bool c941) rfl) ?_
                        refine o_no rfl (.no rfl (c := true) (congrArg Value.bool c941) rfl) ?_
                        refine o_no rfl (.no rfl (c := true) (congrArg Value.bool c941) rfl) ?_
                        refine o_no rfl (.no rfl (c := true) (congrArg Value.bool c941) rfl) ?_
                        refine o_no rfl (.no rfl (c := true) (congrArg Value.bool c941) rfl) ?_
                        refine o_no rfl (.no rfl (c := true) (congrArg Value.bool c941) rfl) ?_
                        refine o_one ?_
                        refine c_no rfl (.no rfl (c := true) (congrArg Value.bool c941) rfl) (Kp.refl _ _) ?_
                        refine o_no rfl (.no rfl (c := true) (congrArg Value.bool c941) rfl) ?_
                        refine o_no rfl (.no rfl (c := true) (congrArg Value.bool c941) rfl) ?_
                        refine o_y rfl (y_pick_t (congrArg Value.bool c941) (v := Vt) rfl) ?_
                        refine o_y rfl (y_assign (v := Vt) rfl) ?_
                        refine o_done (hK913 _ _ (genC [(1, (.slice (some ⟨ab, ao, none⟩) n c)), (5, (Vp g.tb 0)), (7, (Vi (((i : Nat) : Int)))), (8, (Vp w61.heap.size 0)), (10, (Vi ((((sumB a2.L k) : Nat) : Int) + ((ys734.length : Nat) : Int)))), (11, (Vi (((k : Nat) : Int)))), (12, (.slice (some ⟨rb737, 0, none⟩) ys734.length cap738)), (13, Vt), (14, (Vi (((j : Nat) : Int))))] ⟨g928, g929, g930, g931, g932, g933, g934, rfl, g936, trivial⟩ ?_))
                        clear hK913; rintro E ⟨g942, g943, g944, g945, g946, g947, g948, g949, g950, -⟩
                        refine reg ?_
                        refine s_y (y_move (v := (Vi (((j : Nat) : Int)))) g950) rfl ?_
                        refine s_y (y_add rfl rfl (c := ((j : Nat) : Int) + 1) (by omega) rfl) rfl ?_
                        refine s_y (y_assign (v := (Vi (((j : Nat) : Int) + 1))) rfl) rfl ?_
                        have kc951 : Kp (fun _ => False) w733 w885 := (Kp.then0 (Kp.refl _ _) hk886)
                        have kc952 : Kp (fun _ => False) w733 w937 := (Kp.then0 kc951 hk939)
                        exact s_nil (hK887 ((j + 1), true) _ _ ⟨⟨g942, g943, g944, g945, g946, g947, g948, g949, rfl, trivial⟩, kc952, (show (j + 1) ≤ ys734.length from (by omega)), (show true = (ys734.take (j + 1)).any (fun x : Session => decide (x.peer.addr = ⟨9, 0, 0, x9.a⟩)) from (by rw [any_next hz9, ← hkn9, c941]; first | rfl | (simp)))⟩ (by show (ys734.length - (j + 1)) < (ys734.length - j); omega))
                      · refine o_gy rfl (.yes rfl (congrArg Value.bool c941)) (y_move (v := (.slice (some ⟨rb737, 0, none⟩) ys734.length cap738)) g934) ?_
                        refine o_gy rfl (.yes rfl (congrArg Value.bool c941)) (y_move (v := (Vi (((j : Nat) : Int)))) g936) ?_
                        refine o_gy rfl (.yes rfl (congrArg Value.bool c941)) (y_idx so63 sz59 rfl (i := j) rfl (by omega)) ?_
                        refine o_gy rfl (.yes rfl (congrArg Value.bool c941)) (y_fld fo59_2 rfl) ?_
                        refine o_gy rfl (.yes rfl (congrArg Value.bool c941)) (y_fld fo34_0 rfl) ?_
                        refine o_gy rfl (.yes rfl (congrArg Value.bool c941)) (y_load (v := (.agg #[u8 z9.peer.addr.a, u8 z9.peer.addr.b, u8 z9.peer.addr.c, u8 z9.peer.addr.d])) rfl (rd_eg ag27 (EltsOn.kp (OwnC.elts (hf916.kp hk939 id)) id) hz9 (vs := [(u8 z9.peer.addr.a), (u8 z9.peer.addr.b), (u8 z9.peer.addr.c), (u8 z9.peer.addr.d)]) rfl rfl)) ?_
                        refine o_gy rfl (.yes rfl (congrArg Value.bool c941)) (y_fld fo57_1 g931) ?_
                        refine o_gy rfl (.yes rfl (congrArg Value.bool c941)) (y_load (v := (u8 x9.a)) rfl (rd_sc sc5 (On.kp (hk939.get0 (hk886.get0 (hk741.get0 (hk710.get0 hbx9)))) id) rfl)) ?_
                        refine o_one ?_
                        refine c_ge rfl (.yes rfl (congrArg Value.bool c941)) (e_call ca28 (args := [(u8 x9.a), (Vi 0)]) rfl (peerT_spec x9.a 0 _)) ?_
                        rintro _ w953 ⟨rfl, hk954⟩
                        have ka955 := (Kp.then0 ka940 hk954)
                        have ks956 : Kp (fun _ => False) w937 w953 := (Kp.then0 (Kp.refl _ _) hk954)
                        refine ⟨ks956, ?_⟩
                        refine o_gy rfl (.yes rfl (congrArg Value.bool c941)) (y_field (v := (.agg #[u8 9, u8 0, u8 0, u8 x9.a])) rfl (fun _ => by kernel_rfl)) ?_
                        refine o_gy rfl (.yes rfl (congrArg Value.bool c941)) (y_eqT (eq27 9998) eg27 (x := z9.peer.addr) (y := (⟨9, 0, 0, x9.a⟩ : V4)) rfl rfl ⟨_, rfl⟩ ⟨_, rfl⟩) ?_
                        refine o_y rfl (y_pick_f (congrArg Value.bool c941) (v := (.bool (decide (z9.peer.addr = (⟨9, 0, 0, x9.a⟩ : V4))))) rfl) ?_
                        refine o_y rfl (y_assign (v := (.bool (decide (z9.peer.addr = (⟨9, 0, 0, x9.a⟩ : V4))))) rfl) ?_
                        refine o_done (hK913 _ _ (genC [(1, (.slice (some ⟨ab, ao, none⟩) n c)), (5, (Vp g.tb 0)), (7, (Vi (((i : Nat) : Int)))), (8, (Vp w61.heap.size 0)), (10, (Vi ((((sumB a2.L k) : Nat) : Int) + ((ys734.length : Nat) : Int)))), (11, (Vi (((k : Nat) : Int)))), (12, (.slice (some ⟨rb737, 0, none⟩) ys734.length cap738)), (13, (.bool (decide (z9.peer.addr = (⟨9, 0, 0, x9.a⟩ : V4))))), (14, (Vi (((j : Nat) : Int))))] ⟨g928, g929, g930, g931, g932, g933, g934, rfl, g936, trivial⟩ ?_))
                        clear hK913; rintro E ⟨g957, g958, g959, g960, g961, g962, g963, g964, g965, -⟩
                        refine reg ?_
                        refine s_y (y_move (v := (Vi (((j : Nat) : Int)))) g965) rfl ?_
                        refine s_y (y_add rfl rfl (c := ((j : Nat) : Int) + 1) (by omega) rfl) rfl ?_
                        refine s_y (y_assign (v := (Vi (((j : Nat) : Int) + 1))) rfl) rfl ?_
                        have kc966 : Kp (fun _ => False) w733 w885 := (Kp.then0 (Kp.refl _ _) hk886)
                        have kc967 : Kp (fun _ => False) w733 w937 := (Kp.then0 kc966 hk939)
                        have kc968 : Kp (fun _ => False) w733 w953 := (Kp.then0 kc967 hk954)
                        exact s_nil (hK887 ((j + 1), decide (z9.peer.addr = (⟨9, 0, 0, x9.a⟩ : V4))) _ _ ⟨⟨g957, g958, g959, g960, g961, g962, g963, g964, rfl, trivial⟩, kc968, (show (j + 1) ≤ ys734.length from (by omega)), (show (decide (z9.peer.addr = (⟨9, 0, 0, x9.a⟩ : V4))) = (ys734.take (j + 1)).any (fun x : Session => decide (x.peer.addr = ⟨9, 0, 0, x9.a⟩)) from (by rw [any_next hz9, ← hkn9, c941]; first | rfl | (simp)))⟩ (by show (ys734.length - (j + 1)) < (ys734.length - j); omega))
                  · have hje9 : j = ys734.length := by omega
                    refine exit (hK865 _ _ (genC [(1, (.slice (some ⟨ab, ao, none⟩) n c)), (5, (Vp g.tb 0)), (7, (Vi (((i : Nat) : Int)))), (8, (Vp w61.heap.size 0)), (10, (Vi ((((sumB a2.L k) : Nat) : Int) + ((ys734.length : Nat) : Int)))), (11, (Vi (((k : Nat) : Int)))), (13, (.bool (kn)))] ⟨g893, g894, g895, g896, g897, g898, g900, trivial⟩ ?_))
                    clear hK865; rintro E ⟨g969, g970, g971, g972, g973, g974, g975, -⟩
                    refine seq fun K976 hK976 => ?_
                    refine reg ?_
                    refine s_y (y_move (v := (Vp g.tb 0)) g970) rfl ?_
                    refine s_y (y_move (v := (Vi (((k : Nat) : Int)))) g974) rfl ?_
                    refine s_y (y_fld fo57_1 g972) rfl ?_
                    have hb977 := (hk886.get0 (hk741.get0 (hk710.get0 hbx9)))
                    refine s_y (y_load (v := (u8 x9.a)) rfl (rd_sc sc5 (On.now hb977) rfl)) rfl ?_
                    refine s_e (e_call ca28 (args := [(u8 x9.a), (Vi 0)]) rfl (peerT_spec x9.a 0 _)) rfl ?_
                    rintro _ w978 ⟨rfl, hk979⟩
                    have ka980 := (Kp.then0 ka890 hk979)
                    refine s_y (y_field (v := (.agg #[u8 9, u8 0, u8 0, u8 x9.a])) rfl (fun _ => by kernel_rfl)) rfl ?_
                    have he9 : ((a2.L.filter fun x => decide (x.binding = ((k : Nat) : Int))).any (fun x : Session => decide (x.peer.addr = ⟨9, 0, 0, x9.a⟩))) = kn := by rw [← any_perm hp735, hkn9, hje9, List.take_length]
                    have hf981 := (STab.k0 (STab.k0 (STab.k0 hf732 hk741) hk886) hk979)
                    refine s_e (e_call ca32 (args := [(Vp g.tb 0), (Vi (((k : Nat) : Int))), (.agg #[u8 9, u8 0, u8 0, u8 x9.a])]) rfl (knows_sx hf981 ((k : Nat) : Int) ⟨9, 0, 0, x9.a⟩ (by omega))) rfl ?_
                    rintro _ w982 ⟨rfl, hk983⟩
                    have ka984 := (Kp.then0 ka980 hk983)
                    refine s_y (y_move (v := (.bool (kn))) g975) rfl ?_
                    refine s_y (y_bneq Tryd.underlying4 rfl rfl) rfl ?_
                    refine s_nil (hK976 _ _ (genC [(1, (.slice (some ⟨ab, ao, none⟩) n c)), (5, (Vp g.tb 0)), (7, (Vi (((i : Nat) : Int)))), (8, (Vp w61.heap.size 0)), (10, (Vi ((((sumB a2.L k) : Nat) : Int) + ((ys734.length : Nat) : Int)))), (11, (Vi (((k : Nat) : Int)))), (126, (.bool (!(((a2.L.filter fun x => decide (x.binding = ((k : Nat) : Int))).any (fun x : Session => decide (x.peer.addr = ⟨9, 0, 0, x9.a⟩))) == kn))))] ⟨g969, g970, g971, g972, g973, g974, rfl, trivial⟩ ?_))
                    clear hK976; rintro E ⟨g985, g986, g987, g988, g989, g990, g991, -⟩
                    refine cond_b g991 (fun c992 => ?_) (fun c992 => ?_)
                    · exact (ne_dead he9 c992).elim
                    · refine skip (hK730 _ _ (genC [(1, (.slice (some ⟨ab, ao, none⟩) n c)), (5, (Vp g.tb 0)), (7, (Vi (((i : Nat) : Int)))), (8, (Vp w61.heap.size 0)), (10, (Vi ((((sumB a2.L k) : Nat) : Int) + ((ys734.length : Nat) : Int)))), (11, (Vi (((k : Nat) : Int))))] ⟨g985, g986, g987, g988, g989, g990, trivial⟩ ?_))
                      clear hK730; rintro E ⟨g993, g994, g995, g996, g997, g998, -⟩
                      refine reg ?_
                      refine s_y (y_move (v := (Vi (((k : Nat) : Int)))) g998) rfl ?_
                      refine s_y (y_add rfl rfl (c := ((k : Nat) : Int) + 1) (by omega) rfl) rfl ?_
                      refine s_y (y_assign (v := (Vi (((k : Nat) : Int) + 1))) rfl) rfl ?_
                      have kc999 : Kp (fun _ => False) w686 w709 := (Kp.then0 (Kp.refl _ _) hk710)
                      have kc1000 : Kp (fun _ => False) w686 w733 := (Kp.then0 kc999 hk741)
                      have kc1001 : Kp (fun _ => False) w686 w885 := (Kp.then0 kc1000 hk886)
                      have kc1002 : Kp (fun _ => False) w686 w978 := (Kp.then0 kc1001 hk979)
                      have kc1003 : Kp (fun _ => False) w686 w982 := (Kp.then0 kc1002 hk983)
                      exact s_nil (hK711 (k + 1) _ _ ⟨⟨g993, g994, g995, g996, (Eq.trans g997 (congrArg (Value.int .i64) (by show _ = ((sumB a2.L k + cntB a2.L (k : Int) : Nat) : Int); omega))), rfl, trivial⟩, kc1003, (show (k + 1) ≤ 4 from (by omega))⟩ (by show (4 - (k + 1)) < (4 - k); omega))
              · have hke9 : k = 4 := (by omega); have hs9 := sumB_all hb2; rw [← hke9] at hs9
                refine exit (hK695 _ _ (genC [(1, (.slice (some ⟨ab, ao, none⟩) n c)), (5, (Vp g.tb 0)), (7, (Vi (((i : Nat) : Int)))), (10, (Vi ((((sumB a2.L k) : Nat) : Int))))] ⟨g716, g717, g718, g720, trivial⟩ ?_))
                clear hK695; rintro E ⟨g1004, g1005, g1006, g1007, -⟩
                refine seq fun K1008 hK1008 => ?_
                refine reg ?_
                refine s_y (y_move (v := (Vi ((((sumB a2.L k) : Nat) : Int)))) g1007) rfl ?_
                refine s_y (y_move (v := (Vp g.tb 0)) g1005) rfl ?_
                have hf1009 := (STab.k0 ht2 hk710)
                refine s_e (e_call ca33 (args := [(Vp g.tb 0)]) rfl (len_sx hf1009)) rfl ?_
                rintro _ w1010 ⟨rfl, hk1011⟩
                have ka1012 := (Kp.then0 ka713 hk1011)
                refine s_y (y_neq rfl rfl) rfl ?_
                refine s_nil (hK1008 _ _ (genC [(1, (.slice (some ⟨ab, ao, none⟩) n c)), (5, (Vp g.tb 0)), (7, (Vi (((i : Nat) : Int)))), (130, (.bool (decide (((((sumB a2.L k) : Nat) : Int) : Int) ≠ ((a2.L.length : Nat) : Int)))))] ⟨g1004, g1005, g1006, rfl, trivial⟩ ?_))
                clear hK1008; rintro E ⟨g1013, g1014, g1015, g1016, -⟩
                refine cond_d g1016 (fun c1017 => ?_) (fun c1017 => ?_)
                · exact absurd (congrArg (fun n : Nat => (n : Int)) hs9) c1017
                · refine skip (hK78 _ _ (genC [(1, (.slice (some ⟨ab, ao, none⟩) n c)), (5, (Vp g.tb 0)), (7, (Vi (((i : Nat) : Int))))] ⟨g1013, g1014, g1015, trivial⟩ ?_))
                  clear hK78; rintro E ⟨g1018, g1019, g1020, -⟩
                  refine reg ?_
                  refine s_y (y_move (v := (Vi (((i : Nat) : Int)))) g1020) rfl ?_
                  refine s_y (y_add rfl rfl (c := ((i : Nat) : Int) + 1) (by omega) rfl) rfl ?_
                  refine s_y (y_assign (v := (Vi (((i : Nat) : Int) + 1))) rfl) rfl ?_
                  have hf1021 := (STab.k0 hf1009 hk1011)
                  have kc1022 : Kp (fun k => w.heap.size ≤ k) w38 w61 := (Kp.trans (Kp.refl _ _) hk62 fun _ _ e => e)
                  have kc1023 : Kp (fun k => w.heap.size ≤ k) w38 w686 := (Kp.trans kc1022 hk687 fun _ _ e => e)
                  have kc1024 : Kp (fun k => w.heap.size ≤ k) w38 w709 := (Kp.then0 kc1023 hk710)
                  have kc1025 : Kp (fun k => w.heap.size ≤ k) w38 w1010 := (Kp.then0 kc1024 hk1011)
                  exact s_nil (hK63 ((i + 1), a2, s2) _ _ ⟨⟨g1018, g1019, rfl, trivial⟩, kc1025, (show (i + 1) ≤ acts.length from (by omega)), (show STab max g (((i + 1) : Nat) : Int) w.heap.size a2 s2 w1010 from (STab.mono hf1021 (by omega))), (show ∀ x ∈ (a2).L, B4 x.binding from hb2)⟩ (by show (acts.length - (i + 1)) < (acts.length - i); omega))
        · refine exit (hK53 _ _ (genC [] trivial ?_))
          clear hK53; rintro E -
          refine seq fun K1026 hK1026 => ?_
          refine reg ?_
          have hf1027 := ((hT.kp hk39 id).kp hk62 (Nat.not_le.2 (hT.lt)))
          refine s_e (e_call ca25 (args := []) rfl (swakes_spec hf1027)) rfl ?_
          rintro _ w1028 ⟨rfl, hk1029⟩
          have ka1030 := (Kp.then0 ka67 hk1029)
          refine s_y (y_assign (v := Vt) rfl) rfl ?_
          refine s_nil (hK1026 _ _ (genC [(4, Vt)] ⟨rfl, trivial⟩ ?_))
          clear hK1026; rintro E ⟨g1031, -⟩
          refine ret (hret _ _ [Vt] ⟨g1031, trivial⟩ ?_)
          exact ⟨rfl, ka1030⟩

end Go.Proofs.YtdcnblafepgheaaDoor
