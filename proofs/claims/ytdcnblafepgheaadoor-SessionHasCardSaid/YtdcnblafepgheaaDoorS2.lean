/-
  Written by a program (wip/walks).
-/
import Derived.Test.YtdcnblafepgheaaDoorS1
namespace Go.Proofs.YtdcnblafepgheaaDoor
open Go Go.V
set_option maxRecDepth 100000
theorem up_spec {g : OG} {rb cap n : Nat} {l : List Thing} {m : List (Int × Int)} {w : World} (h : OAt g rb cap n l m w) (hp : PosOK l m) (N j : Nat) (hN : N ≤ n) (hj : j < N) (hu : UpI l N j) : Rets Tryd.prog 108 #[(.iface 150 (.pointer (some ⟨g.ob, 0, none⟩))), (.int .i64 (((j : Nat) : Int)))] w fun v w' => ∃ l' m', v = .tuple #[] ∧ HRes g rb cap n l N w l' m' w' ∧ HeapN l' N := by
  refine enter Tryd.func108 rfl Tryd.ntmps108 rfl fun Q hret hend E hE => ?_
  have g1 : E 0 = (.iface 150 (Vp g.ob 0)) := hE 0
  have g2 : E 1 = (Vi (((j : Nat) : Int))) := hE 1
  clear hE
  have hbg := h.big; have hln := h.len
  refine block ?_
  refine loopG (X := Nat × List Thing × List (Int × Int)) (fun q_ E w_ => Has E [(0, (.iface 150 (Vp g.ob 0))), (1, (Vi (((q_.1 : Nat) : Int))))] ∧ Kp (fun k => k = rb ∨ k = g.mb) w w_ ∧ (OAt g rb cap n q_.2.1 q_.2.2 w_) ∧ (PosOK q_.2.1 q_.2.2) ∧ (UpI q_.2.1 N q_.1) ∧ (List.Perm q_.2.1 l) ∧ (List.drop N q_.2.1 = l.drop N) ∧ (q_.1 < N)) (fun q_ => q_.1) (j, l, m) ⟨⟨g1, g2, trivial⟩, Kp.refl _ _, (show OAt g rb cap n l m w from h), (show PosOK l m from hp), (show UpI l N j from hu), (show List.Perm l l from (List.Perm.refl _)), (show List.drop N l = l.drop N from rfl), (show j < N from hj)⟩ ?_
  rintro ⟨x, ll, mm⟩ E w5 ⟨⟨g3, g4, -⟩, hk6, hi8, hi9, hi10, hi11, hi12, hi13⟩ K7 hK7
  replace g3 : E 0 = (.iface 150 (Vp g.ob 0)) := g3
  replace g4 : E 1 = (Vi (((x : Nat) : Int))) := g4
  replace hi8 : OAt g rb cap n ll mm w5 := hi8
  replace hi9 : PosOK ll mm := hi9
  replace hi10 : UpI ll N x := hi10
  replace hi11 : List.Perm ll l := hi11
  replace hi12 : List.drop N ll = l.drop N := hi12
  replace hi13 : x < N := hi13
  have ka14 : Kp (fun k => k = rb ∨ k = g.mb) w w5 := (Kp.trans (Kp.refl _ _) hk6 (fun _ _ e => e))
  have hlen := hi8.len
  refine block ?_
  refine seq fun K15 hK15 => ?_
  refine reg ?_
  refine s_y (y_move (v := (Vi (((x : Nat) : Int)))) g4) rfl ?_
  refine s_y (y_sub rfl rfl (c := ((x : Nat) : Int) - 1) (by omega) rfl) rfl ?_
  refine s_y (y_quo rfl rfl (by decide) (quo_par x) (by omega)) rfl ?_
  refine s_y (y_assign (v := (Vi ((((x - 1) / 2 : Nat) : Int)))) rfl) rfl ?_
  refine s_nil (hK15 _ _ (genC [(0, (.iface 150 (Vp g.ob 0))), (1, (Vi (((x : Nat) : Int)))), (4, (Vi ((((x - 1) / 2 : Nat) : Int))))] ⟨g3, g4, rfl, trivial⟩ ?_))
  clear hK15; rintro E ⟨g16, g17, g18, -⟩
  refine seq fun K19 hK19 => ?_
  refine seq fun K20 hK20 => ?_
  refine reg ?_
  refine s_y (y_move (v := (Vi ((((x - 1) / 2 : Nat) : Int)))) g18) rfl ?_
  refine s_y (y_move (v := (Vi (((x : Nat) : Int)))) g17) rfl ?_
  refine s_y (y_eql rfl rfl) rfl ?_
  refine s_y (y_move (v := (.bool (decide (((((x - 1) / 2 : Nat) : Int) : Int) = ((x : Nat) : Int))))) rfl) rfl ?_
  by_cases c21 : ((((x - 1) / 2 : Nat) : Int) : Int) = ((x : Nat) : Int)
  · refine s_no (.no rfl (c := true) (congrArg Value.bool (decide_eq_true c21)) rfl) rfl ?_
    refine s_no (.no rfl (c := true) (congrArg Value.bool (decide_eq_true c21)) rfl) rfl ?_
    refine s_no (.no rfl (c := true) (congrArg Value.bool (decide_eq_true c21)) rfl) rfl ?_
    refine s_no (.no rfl (c := true) (congrArg Value.bool (decide_eq_true c21)) rfl) rfl ?_
    refine s_no (.no rfl (c := true) (congrArg Value.bool (decide_eq_true c21)) rfl) rfl ?_
    refine s_y (y_pick_t (congrArg Value.bool (decide_eq_true c21)) (v := Vt) rfl) rfl ?_
    refine s_nil (hK20 _ _ (genC [(0, (.iface 150 (Vp g.ob 0))), (1, (Vi (((x : Nat) : Int)))), (4, (Vi ((((x - 1) / 2 : Nat) : Int)))), (17, Vt)] ⟨g16, g17, g18, rfl, trivial⟩ ?_))
    clear hK20; rintro E ⟨g22, g23, g24, g25, -⟩
    refine cond_t g25 ?_
    refine exit (hend _ _ [] trivial ?_)
    exact ⟨ll, mm, rfl, ⟨hi8, hi9, hi11, hi12, ka14⟩, hi10.done (.inl (by omega))⟩
  · refine s_gy (.yes rfl (congrArg Value.bool (decide_eq_false c21))) (y_move (v := (.iface 150 (Vp g.ob 0))) g16) rfl ?_
    refine s_gy (.yes rfl (congrArg Value.bool (decide_eq_false c21))) (y_move (v := (Vi (((x : Nat) : Int)))) g17) rfl ?_
    refine s_gy (.yes rfl (congrArg Value.bool (decide_eq_false c21))) (y_move (v := (Vi ((((x - 1) / 2 : Nat) : Int)))) g18) rfl ?_
    refine s_ge (.yes rfl (congrArg Value.bool (decide_eq_false c21))) (e_invoke met_Less rfl (args := [(Vi (((x : Nat) : Int))), (Vi ((((x - 1) / 2 : Nat) : Int)))]) rfl (less_spec hi8 x ((x - 1) / 2) (by omega) (by omega))) rfl ?_
    rintro _ w26 ⟨rfl, hk27⟩
    have ka28 := (Kp.then0 ka14 hk27)
    refine s_gy (.yes rfl (congrArg Value.bool (decide_eq_false c21))) (y_notd rfl) rfl ?_
    refine s_y (y_pick_f (congrArg Value.bool (decide_eq_false c21)) (v := (.bool (decide (¬ (ahd (ix ll x) (ix ll ((x - 1) / 2))))))) rfl) rfl ?_
    refine s_nil (hK20 _ _ (genC [(0, (.iface 150 (Vp g.ob 0))), (1, (Vi (((x : Nat) : Int)))), (4, (Vi ((((x - 1) / 2 : Nat) : Int)))), (17, (.bool (decide (¬ (ahd (ix ll x) (ix ll ((x - 1) / 2)))))))] ⟨g16, g17, g18, rfl, trivial⟩ ?_))
    clear hK20; rintro E ⟨g29, g30, g31, g32, -⟩
    refine cond_d g32 (fun c33 => ?_) (fun c33 => ?_)
    · refine exit (hend _ _ [] trivial ?_)
      have hf34 := (OAt.kp hi8 hk27 id id id)
      exact ⟨ll, mm, rfl, ⟨hf34, hi9, hi11, hi12, ka28⟩, hi10.done (.inr c33)⟩
    · refine skip (hK19 _ _ (genC [(0, (.iface 150 (Vp g.ob 0))), (1, (Vi (((x : Nat) : Int)))), (4, (Vi ((((x - 1) / 2 : Nat) : Int))))] ⟨g29, g30, g31, trivial⟩ ?_))
      clear hK19; rintro E ⟨g35, g36, g37, -⟩
      refine seq fun K38 hK38 => ?_
      refine reg ?_
      refine s_y (y_move (v := (.iface 150 (Vp g.ob 0))) g35) rfl ?_
      refine s_y (y_move (v := (Vi ((((x - 1) / 2 : Nat) : Int)))) g37) rfl ?_
      refine s_y (y_move (v := (Vi (((x : Nat) : Int)))) g36) rfl ?_
      have hf39 := (OAt.kp hi8 hk27 id id id)
      refine s_e (e_invoke met_Swap rfl (args := [(Vi ((((x - 1) / 2 : Nat) : Int))), (Vi (((x : Nat) : Int)))]) rfl (swap_spec hf39 ((x - 1) / 2) x (by omega) (by omega) hi9)) rfl ?_
      rintro _ w40 ⟨rfl, ho42, hk41⟩
      have ka43 := (Kp.trans ka28 hk41 (fun _ _ e => e))
      have hlnhp44 := hf39.len; have hp44 := PosOK.swap hi9 (show ((x - 1) / 2) < ll.length by omega) (show x < ll.length by omega)
      refine s_nil (hK38 _ _ (genC [(0, (.iface 150 (Vp g.ob 0))), (4, (Vi ((((x - 1) / 2 : Nat) : Int))))] ⟨g35, g37, trivial⟩ ?_))
      clear hK38; rintro E ⟨g45, g46, -⟩
      refine reg ?_
      refine s_y (y_move (v := (Vi ((((x - 1) / 2 : Nat) : Int)))) g46) rfl ?_
      refine s_y (y_assign (v := (Vi ((((x - 1) / 2 : Nat) : Int)))) rfl) rfl ?_
      have kc47 : Kp (fun k => k = rb ∨ k = g.mb) w w5 := (Kp.trans (Kp.refl _ _) hk6 (fun _ _ e => e))
      have kc48 : Kp (fun k => k = rb ∨ k = g.mb) w w26 := (Kp.then0 kc47 hk27)
      have kc49 : Kp (fun k => k = rb ∨ k = g.mb) w w40 := (Kp.trans kc48 hk41 (fun _ _ e => e))
      exact s_nil (hK7 (((x - 1) / 2), (swpL ll ((x - 1) / 2) x), (aset (aset mm (ix (swpL ll ((x - 1) / 2) x) ((x - 1) / 2)).id (((x - 1) / 2 : Nat) : Int)) (ix (swpL ll ((x - 1) / 2) x) x).id ((x : Nat) : Int))) _ _ ⟨⟨g45, rfl, trivial⟩, kc49, (show OAt g rb cap n (swpL ll ((x - 1) / 2) x) (aset (aset mm (ix (swpL ll ((x - 1) / 2) x) ((x - 1) / 2)).id (((x - 1) / 2 : Nat) : Int)) (ix (swpL ll ((x - 1) / 2) x) x).id ((x : Nat) : Int)) w40 from ho42), (show PosOK (swpL ll ((x - 1) / 2) x) (aset (aset mm (ix (swpL ll ((x - 1) / 2) x) ((x - 1) / 2)).id (((x - 1) / 2 : Nat) : Int)) (ix (swpL ll ((x - 1) / 2) x) x).id ((x : Nat) : Int)) from hp44), (show UpI (swpL ll ((x - 1) / 2) x) N ((x - 1) / 2) from hi10.step (by omega) hi13 (by omega) (Decidable.not_not.1 c33)), (show List.Perm (swpL ll ((x - 1) / 2) x) l from (swpL_perm (by omega) (by omega)).trans hi11), (show List.drop N (swpL ll ((x - 1) / 2) x) = l.drop N from (swp_drop (by omega) (by omega)).trans hi12), (show ((x - 1) / 2) < N from (by omega))⟩ (by show ((x - 1) / 2) < x; omega))

theorem down_mv0 {l : List Thing} {N j : Nat} (h : DownI l N j False) : DownI l N j (j ≠ j) := ⟨fun k h0 hN h1 h2 => h.1 k h0 hN h1 fun e => absurd rfl (h2 e), h.2⟩
theorem down_mv {l : List Thing} {N j : Nat} {p : Prop} (h : DownI l N j True) : DownI l N j p := ⟨fun k h0 hN h1 _ => h.1 k h0 hN h1 fun _ => trivial, h.2⟩
theorem down_spec {g : OG} {rb cap n : Nat} {l : List Thing} {m : List (Int × Int)} {w : World} (h : OAt g rb cap n l m w) (hp : PosOK l m) (N j : Nat) (hN : N ≤ n) (hj : j < N) (hd : DownI l N j False) : Rets Tryd.prog 109 #[(.iface 150 (.pointer (some ⟨g.ob, 0, none⟩))), (.int .i64 (((j : Nat) : Int))), (.int .i64 (((N : Nat) : Int)))] w fun v w' => ∃ l' m' b, v = .bool b ∧ HRes g rb cap n l N w l' m' w' ∧ (b = true → HeapN l' N) ∧ (b = false → UpI l' N j) := by
  refine enter Tryd.func109 rfl Tryd.ntmps109 rfl fun Q hret hend E hE => ?_
  have g1 : E 0 = (.iface 150 (Vp g.ob 0)) := hE 0
  have g2 : E 1 = (Vi (((j : Nat) : Int))) := hE 1
  have g3 : E 2 = (Vi (((N : Nat) : Int))) := hE 2
  clear hE
  have hbg := h.big; have hln := h.len
  refine seq fun K4 hK4 => ?_
  refine reg ?_
  refine s_y (y_assign (v := Vf) rfl) rfl ?_
  refine s_nil (hK4 _ _ (genC [(0, (.iface 150 (Vp g.ob 0))), (1, (Vi (((j : Nat) : Int)))), (2, (Vi (((N : Nat) : Int))))] ⟨g1, g2, g3, trivial⟩ ?_))
  clear hK4; rintro E ⟨g5, g6, g7, -⟩
  refine seq fun K8 hK8 => ?_
  refine reg ?_
  refine s_y (y_move (v := (Vi (((j : Nat) : Int)))) g6) rfl ?_
  refine s_y (y_assign (v := (Vi (((j : Nat) : Int)))) rfl) rfl ?_
  refine s_nil (hK8 _ _ (genC [(0, (.iface 150 (Vp g.ob 0))), (1, (Vi (((j : Nat) : Int)))), (2, (Vi (((N : Nat) : Int)))), (7, (Vi (((j : Nat) : Int))))] ⟨g5, g6, g7, rfl, trivial⟩ ?_))
  clear hK8; rintro E ⟨g9, g10, g11, g12, -⟩
  refine seq fun K13 hK13 => ?_
  refine block ?_
  refine loopG (X := Nat × List Thing × List (Int × Int)) (fun q_ E w_ => Has E [(0, (.iface 150 (Vp g.ob 0))), (1, (Vi (((j : Nat) : Int)))), (2, (Vi (((N : Nat) : Int)))), (7, (Vi (((q_.1 : Nat) : Int))))] ∧ Kp (fun k => k = rb ∨ k = g.mb) w w_ ∧ (OAt g rb cap n q_.2.1 q_.2.2 w_) ∧ (PosOK q_.2.1 q_.2.2) ∧ (DownI q_.2.1 N q_.1 (q_.1 ≠ j)) ∧ (List.Perm q_.2.1 l) ∧ (List.drop N q_.2.1 = l.drop N) ∧ (j ≤ q_.1 ∧ q_.1 < N)) (fun q_ => (N - q_.1)) (j, l, m) ⟨⟨g9, g10, g11, g12, trivial⟩, Kp.refl _ _, (show OAt g rb cap n l m w from h), (show PosOK l m from hp), (show DownI l N j (j ≠ j) from (down_mv0 hd)), (show List.Perm l l from (List.Perm.refl _)), (show List.drop N l = l.drop N from rfl), (show j ≤ j ∧ j < N from ⟨Nat.le_refl _, hj⟩)⟩ ?_
  rintro ⟨x, ll, mm⟩ E w18 ⟨⟨g14, g15, g16, g17, -⟩, hk19, hi21, hi22, hi23, hi24, hi25, hi26⟩ K20 hK20
  replace g14 : E 0 = (.iface 150 (Vp g.ob 0)) := g14
  replace g15 : E 1 = (Vi (((j : Nat) : Int))) := g15
  replace g16 : E 2 = (Vi (((N : Nat) : Int))) := g16
  replace g17 : E 7 = (Vi (((x : Nat) : Int))) := g17
  replace hi21 : OAt g rb cap n ll mm w18 := hi21
  replace hi22 : PosOK ll mm := hi22
  replace hi23 : DownI ll N x (x ≠ j) := hi23
  replace hi24 : List.Perm ll l := hi24
  replace hi25 : List.drop N ll = l.drop N := hi25
  replace hi26 : j ≤ x ∧ x < N := hi26
  have ka27 : Kp (fun k => k = rb ∨ k = g.mb) w w18 := (Kp.trans (Kp.refl _ _) hk19 (fun _ _ e => e))
  have hlen := hi21.len; have hbx := hi26
  refine block ?_
  refine seq fun K28 hK28 => ?_
  refine reg ?_
  refine s_y (y_move (v := (Vi (((x : Nat) : Int)))) g17) rfl ?_
  refine s_y (y_mul rfl rfl (c := ((2 * x : Nat) : Int)) (by omega) (by omega)) rfl ?_
  refine s_y (y_add rfl rfl (c := ((2 * x + 1 : Nat) : Int)) (by omega) (by omega)) rfl ?_
  refine s_y (y_assign (v := (Vi (((2 * x + 1 : Nat) : Int)))) rfl) rfl ?_
  refine s_nil (hK28 _ _ (genC [(0, (.iface 150 (Vp g.ob 0))), (1, (Vi (((j : Nat) : Int)))), (2, (Vi (((N : Nat) : Int)))), (7, (Vi (((x : Nat) : Int)))), (8, (Vi (((2 * x + 1 : Nat) : Int))))] ⟨g14, g15, g16, g17, rfl, trivial⟩ ?_))
  clear hK28; rintro E ⟨g29, g30, g31, g32, g33, -⟩
  refine seq fun K34 hK34 => ?_
  refine seq fun K35 hK35 => ?_
  refine reg ?_
  refine s_y (y_move (v := (Vi (((2 * x + 1 : Nat) : Int)))) g33) rfl ?_
  refine s_y (y_move (v := (Vi (((N : Nat) : Int)))) g31) rfl ?_
  refine s_y (y_geq rfl rfl) rfl ?_
  refine s_y (y_move (v := (.bool (decide ((((N : Nat) : Int) : Int) ≤ ((2 * x + 1 : Nat) : Int))))) rfl) rfl ?_
  by_cases c36 : (((N : Nat) : Int) : Int) ≤ ((2 * x + 1 : Nat) : Int)
  · refine s_no (.no rfl (c := true) (congrArg Value.bool (decide_eq_true c36)) rfl) rfl ?_
    refine s_no (.no rfl (c := true) (congrArg Value.bool (decide_eq_true c36)) rfl) rfl ?_
    refine s_y (y_pick_t (congrArg Value.bool (decide_eq_true c36)) (v := Vt) rfl) rfl ?_
    refine s_nil (hK35 _ _ (genC [(0, (.iface 150 (Vp g.ob 0))), (1, (Vi (((j : Nat) : Int)))), (2, (Vi (((N : Nat) : Int)))), (7, (Vi (((x : Nat) : Int)))), (8, (Vi (((2 * x + 1 : Nat) : Int)))), (21, Vt)] ⟨g29, g30, g31, g32, g33, rfl, trivial⟩ ?_))
    clear hK35; rintro E ⟨g37, g38, g39, g40, g41, g42, -⟩
    refine cond_t g42 ?_
    refine exit (hK13 _ _ (genC [(1, (Vi (((j : Nat) : Int)))), (7, (Vi (((x : Nat) : Int))))] ⟨g38, g40, trivial⟩ ?_))
    clear hK13; rintro E ⟨g43, g44, -⟩
    refine seq fun K45 hK45 => ?_
    refine reg ?_
    refine s_y (y_move (v := (Vi (((x : Nat) : Int)))) g44) rfl ?_
    refine s_y (y_move (v := (Vi (((j : Nat) : Int)))) g43) rfl ?_
    refine s_y (y_gtr rfl rfl) rfl ?_
    refine s_y (y_assign (v := (.bool (decide ((((j : Nat) : Int) : Int) < ((x : Nat) : Int))))) rfl) rfl ?_
    refine s_nil (hK45 _ _ (genC [(6, (.bool (decide ((((j : Nat) : Int) : Int) < ((x : Nat) : Int)))))] ⟨rfl, trivial⟩ ?_))
    clear hK45; rintro E ⟨g46, -⟩
    refine ret (hret _ _ [(.bool (decide ((((j : Nat) : Int) : Int) < ((x : Nat) : Int))))] ⟨g46, trivial⟩ ?_)
    have hc9 : ∀ k, 0 < k → k < N → (k - 1) / 2 = x → ¬ ahd (ix ll k) (ix ll x) := (fun k h0 hN hk => by omega)
    refine ⟨ll, mm, _, rfl, ⟨hi21, hi22, hi24, hi25, ka27⟩, fun hb => ?_, fun hb => ?_⟩
    · exact hi23.done (fun e => by subst e; simp at hb) hc9
    · have e9 : x = j := by have h8 := of_decide_eq_false hb; omega
      subst e9; exact DownI.up hi23 hc9
  · refine s_gy (.yes rfl (congrArg Value.bool (decide_eq_false c36))) (y_move (v := (Vi (((2 * x + 1 : Nat) : Int)))) g33) rfl ?_
    refine s_gy (.yes rfl (congrArg Value.bool (decide_eq_false c36))) (y_lss rfl rfl) rfl ?_
    refine s_y (y_pick_f (congrArg Value.bool (decide_eq_false c36)) (v := (.bool (decide ((((2 * x + 1 : Nat) : Int) : Int) < 0)))) rfl) rfl ?_
    refine s_nil (hK35 _ _ (genC [(0, (.iface 150 (Vp g.ob 0))), (1, (Vi (((j : Nat) : Int)))), (2, (Vi (((N : Nat) : Int)))), (7, (Vi (((x : Nat) : Int)))), (8, (Vi (((2 * x + 1 : Nat) : Int)))), (21, (.bool (decide ((((2 * x + 1 : Nat) : Int) : Int) < 0))))] ⟨g29, g30, g31, g32, g33, rfl, trivial⟩ ?_))
    clear hK35; rintro E ⟨g47, g48, g49, g50, g51, g52, -⟩
    refine cond_d g52 (fun c53 => ?_) (fun c53 => ?_)
    · refine exit (hK13 _ _ (genC [(1, (Vi (((j : Nat) : Int)))), (7, (Vi (((x : Nat) : Int))))] ⟨g48, g50, trivial⟩ ?_))
      clear hK13; rintro E ⟨g54, g55, -⟩
      refine seq fun K56 hK56 => ?_
      refine reg ?_
      refine s_y (y_move (v := (Vi (((x : Nat) : Int)))) g55) rfl ?_
      refine s_y (y_move (v := (Vi (((j : Nat) : Int)))) g54) rfl ?_
      refine s_y (y_gtr rfl rfl) rfl ?_
      refine s_y (y_assign (v := (.bool (decide ((((j : Nat) : Int) : Int) < ((x : Nat) : Int))))) rfl) rfl ?_
      refine s_nil (hK56 _ _ (genC [(6, (.bool (decide ((((j : Nat) : Int) : Int) < ((x : Nat) : Int)))))] ⟨rfl, trivial⟩ ?_))
      clear hK56; rintro E ⟨g57, -⟩
      refine ret (hret _ _ [(.bool (decide ((((j : Nat) : Int) : Int) < ((x : Nat) : Int))))] ⟨g57, trivial⟩ ?_)
      have hc9 : ∀ k, 0 < k → k < N → (k - 1) / 2 = x → ¬ ahd (ix ll k) (ix ll x) := (fun k h0 hN hk => by omega)
      refine ⟨ll, mm, _, rfl, ⟨hi21, hi22, hi24, hi25, ka27⟩, fun hb => ?_, fun hb => ?_⟩
      · exact hi23.done (fun e => by subst e; simp at hb) hc9
      · have e9 : x = j := by have h8 := of_decide_eq_false hb; omega
        subst e9; exact DownI.up hi23 hc9
    · refine skip (hK34 _ _ (genC [(0, (.iface 150 (Vp g.ob 0))), (1, (Vi (((j : Nat) : Int)))), (2, (Vi (((N : Nat) : Int)))), (7, (Vi (((x : Nat) : Int)))), (8, (Vi (((2 * x + 1 : Nat) : Int))))] ⟨g47, g48, g49, g50, g51, trivial⟩ ?_))
      clear hK34; rintro E ⟨g58, g59, g60, g61, g62, -⟩
      refine seq fun K63 hK63 => ?_
      refine reg ?_
      refine s_y (y_move (v := (Vi (((2 * x + 1 : Nat) : Int)))) g62) rfl ?_
      refine s_y (y_assign (v := (Vi (((2 * x + 1 : Nat) : Int)))) rfl) rfl ?_
      refine s_nil (hK63 _ _ (genC [(0, (.iface 150 (Vp g.ob 0))), (1, (Vi (((j : Nat) : Int)))), (2, (Vi (((N : Nat) : Int)))), (7, (Vi (((x : Nat) : Int)))), (8, (Vi (((2 * x + 1 : Nat) : Int)))), (9, (Vi (((2 * x + 1 : Nat) : Int))))] ⟨g58, g59, g60, g61, g62, rfl, trivial⟩ ?_))
      clear hK63; rintro E ⟨g64, g65, g66, g67, g68, g69, -⟩
      refine seq fun K70 hK70 => ?_
      refine seq fun K71 hK71 => ?_
      refine reg ?_
      refine s_y (y_move (v := (Vi (((2 * x + 1 : Nat) : Int)))) g68) rfl ?_
      refine s_y (y_add rfl rfl (c := ((2 * x + 1 + 1 : Nat) : Int)) (by omega) (by omega)) rfl ?_
      refine s_y (y_assign (v := (Vi (((2 * x + 1 + 1 : Nat) : Int)))) rfl) rfl ?_
      refine s_nil (hK71 _ _ (genC [(0, (.iface 150 (Vp g.ob 0))), (1, (Vi (((j : Nat) : Int)))), (2, (Vi (((N : Nat) : Int)))), (7, (Vi (((x : Nat) : Int)))), (8, (Vi (((2 * x + 1 : Nat) : Int)))), (9, (Vi (((2 * x + 1 : Nat) : Int)))), (10, (Vi (((2 * x + 1 + 1 : Nat) : Int))))] ⟨g64, g65, g66, g67, g68, g69, rfl, trivial⟩ ?_))
      clear hK71; rintro E ⟨g72, g73, g74, g75, g76, g77, g78, -⟩
      refine seq fun K79 hK79 => ?_
      refine reg ?_
      refine s_y (y_move (v := (Vi (((2 * x + 1 + 1 : Nat) : Int)))) g78) rfl ?_
      refine s_y (y_move (v := (Vi (((N : Nat) : Int)))) g74) rfl ?_
      refine s_y (y_lss rfl rfl) rfl ?_
      refine s_y (y_move (v := (.bool (decide ((((2 * x + 1 + 1 : Nat) : Int) : Int) < ((N : Nat) : Int))))) rfl) rfl ?_
      by_cases c80 : (((2 * x + 1 + 1 : Nat) : Int) : Int) < ((N : Nat) : Int)
      · refine s_gy (.yes rfl (congrArg Value.bool (decide_eq_true c80))) (y_move (v := (.iface 150 (Vp g.ob 0))) g72) rfl ?_
        refine s_gy (.yes rfl (congrArg Value.bool (decide_eq_true c80))) (y_move (v := (Vi (((2 * x + 1 + 1 : Nat) : Int)))) g78) rfl ?_
        refine s_gy (.yes rfl (congrArg Value.bool (decide_eq_true c80))) (y_move (v := (Vi (((2 * x + 1 : Nat) : Int)))) g76) rfl ?_
        refine s_ge (.yes rfl (congrArg Value.bool (decide_eq_true c80))) (e_invoke met_Less rfl (args := [(Vi (((2 * x + 1 + 1 : Nat) : Int))), (Vi (((2 * x + 1 : Nat) : Int)))]) rfl (less_spec hi21 (2 * x + 1 + 1) (2 * x + 1) (by omega) (by omega))) rfl ?_
        rintro _ w81 ⟨rfl, hk82⟩
        have ka83 := (Kp.then0 ka27 hk82)
        refine s_y (y_pick_t (congrArg Value.bool (decide_eq_true c80)) (v := (.bool (decide (ahd (ix ll (2 * x + 1 + 1)) (ix ll (2 * x + 1)))))) rfl) rfl ?_
        refine s_nil (hK79 _ _ (genC [(0, (.iface 150 (Vp g.ob 0))), (1, (Vi (((j : Nat) : Int)))), (2, (Vi (((N : Nat) : Int)))), (7, (Vi (((x : Nat) : Int)))), (9, (Vi (((2 * x + 1 : Nat) : Int)))), (10, (Vi (((2 * x + 1 + 1 : Nat) : Int)))), (33, (.bool (decide (ahd (ix ll (2 * x + 1 + 1)) (ix ll (2 * x + 1))))))] ⟨g72, g73, g74, g75, g77, g78, rfl, trivial⟩ ?_))
        clear hK79; rintro E ⟨g84, g85, g86, g87, g88, g89, g90, -⟩
        refine cond_d g90 (fun c91 => ?_) (fun c91 => ?_)
        · refine reg ?_
          refine s_y (y_move (v := (Vi (((2 * x + 1 + 1 : Nat) : Int)))) g89) rfl ?_
          refine s_y (y_assign (v := (Vi (((2 * x + 1 + 1 : Nat) : Int)))) rfl) rfl ?_
          refine s_nil (hK70 _ _ (genC [(0, (.iface 150 (Vp g.ob 0))), (1, (Vi (((j : Nat) : Int)))), (2, (Vi (((N : Nat) : Int)))), (7, (Vi (((x : Nat) : Int)))), (9, (Vi (((2 * x + 1 + 1 : Nat) : Int))))] ⟨g84, g85, g86, g87, rfl, trivial⟩ ?_))
          clear hK70; rintro E ⟨g92, g93, g94, g95, g96, -⟩
          refine seq fun K97 hK97 => ?_
          refine seq fun K98 hK98 => ?_
          refine reg ?_
          refine s_y (y_move (v := (.iface 150 (Vp g.ob 0))) g92) rfl ?_
          refine s_y (y_move (v := (Vi (((2 * x + 1 + 1 : Nat) : Int)))) g96) rfl ?_
          refine s_y (y_move (v := (Vi (((x : Nat) : Int)))) g95) rfl ?_
          have hf99 := (OAt.kp hi21 hk82 id id id)
          refine s_e (e_invoke met_Less rfl (args := [(Vi (((2 * x + 1 + 1 : Nat) : Int))), (Vi (((x : Nat) : Int)))]) rfl (less_spec hf99 (2 * x + 1 + 1) x (by omega) (by omega))) rfl ?_
          rintro _ w100 ⟨rfl, hk101⟩
          have ka102 := (Kp.then0 ka83 hk101)
          refine s_y (y_notd rfl) rfl ?_
          refine s_nil (hK98 _ _ (genC [(0, (.iface 150 (Vp g.ob 0))), (1, (Vi (((j : Nat) : Int)))), (2, (Vi (((N : Nat) : Int)))), (7, (Vi (((x : Nat) : Int)))), (9, (Vi (((2 * x + 1 + 1 : Nat) : Int)))), (39, (.bool (decide (¬ (ahd (ix ll (2 * x + 1 + 1)) (ix ll x))))))] ⟨g92, g93, g94, g95, g96, rfl, trivial⟩ ?_))
          clear hK98; rintro E ⟨g103, g104, g105, g106, g107, g108, -⟩
          refine cond_d g108 (fun c109 => ?_) (fun c109 => ?_)
          · refine exit (hK13 _ _ (genC [(1, (Vi (((j : Nat) : Int)))), (7, (Vi (((x : Nat) : Int))))] ⟨g104, g106, trivial⟩ ?_))
            clear hK13; rintro E ⟨g110, g111, -⟩
            refine seq fun K112 hK112 => ?_
            refine reg ?_
            refine s_y (y_move (v := (Vi (((x : Nat) : Int)))) g111) rfl ?_
            refine s_y (y_move (v := (Vi (((j : Nat) : Int)))) g110) rfl ?_
            refine s_y (y_gtr rfl rfl) rfl ?_
            refine s_y (y_assign (v := (.bool (decide ((((j : Nat) : Int) : Int) < ((x : Nat) : Int))))) rfl) rfl ?_
            refine s_nil (hK112 _ _ (genC [(6, (.bool (decide ((((j : Nat) : Int) : Int) < ((x : Nat) : Int)))))] ⟨rfl, trivial⟩ ?_))
            clear hK112; rintro E ⟨g113, -⟩
            refine ret (hret _ _ [(.bool (decide ((((j : Nat) : Int) : Int) < ((x : Nat) : Int))))] ⟨g113, trivial⟩ ?_)
            have hf114 := (OAt.kp hf99 hk101 id id id)
            have hc9 : ∀ k, 0 < k → k < N → (k - 1) / 2 = x → ¬ ahd (ix ll k) (ix ll x) := (hcC (hoA c91) c109)
            refine ⟨ll, mm, _, rfl, ⟨hf114, hi22, hi24, hi25, ka102⟩, fun hb => ?_, fun hb => ?_⟩
            · exact hi23.done (fun e => by subst e; simp at hb) hc9
            · have e9 : x = j := by have h8 := of_decide_eq_false hb; omega
              subst e9; exact DownI.up hi23 hc9
          · refine skip (hK97 _ _ (genC [(0, (.iface 150 (Vp g.ob 0))), (1, (Vi (((j : Nat) : Int)))), (2, (Vi (((N : Nat) : Int)))), (7, (Vi (((x : Nat) : Int)))), (9, (Vi (((2 * x + 1 + 1 : Nat) : Int))))] ⟨g103, g104, g105, g106, g107, trivial⟩ ?_))
            clear hK97; rintro E ⟨g115, g116, g117, g118, g119, -⟩
            refine seq fun K120 hK120 => ?_
            refine reg ?_
            refine s_y (y_move (v := (.iface 150 (Vp g.ob 0))) g115) rfl ?_
            refine s_y (y_move (v := (Vi (((x : Nat) : Int)))) g118) rfl ?_
            refine s_y (y_move (v := (Vi (((2 * x + 1 + 1 : Nat) : Int)))) g119) rfl ?_
            have hf121 := (OAt.kp hf99 hk101 id id id)
            refine s_e (e_invoke met_Swap rfl (args := [(Vi (((x : Nat) : Int))), (Vi (((2 * x + 1 + 1 : Nat) : Int)))]) rfl (swap_spec hf121 x (2 * x + 1 + 1) (by omega) (by omega) hi22)) rfl ?_
            rintro _ w122 ⟨rfl, ho124, hk123⟩
            have ka125 := (Kp.trans ka102 hk123 (fun _ _ e => e))
            have hlnhp126 := hf121.len; have hp126 := PosOK.swap hi22 (show x < ll.length by omega) (show (2 * x + 1 + 1) < ll.length by omega)
            refine s_nil (hK120 _ _ (genC [(0, (.iface 150 (Vp g.ob 0))), (1, (Vi (((j : Nat) : Int)))), (2, (Vi (((N : Nat) : Int)))), (9, (Vi (((2 * x + 1 + 1 : Nat) : Int))))] ⟨g115, g116, g117, g119, trivial⟩ ?_))
            clear hK120; rintro E ⟨g127, g128, g129, g130, -⟩
            refine reg ?_
            refine s_y (y_move (v := (Vi (((2 * x + 1 + 1 : Nat) : Int)))) g130) rfl ?_
            refine s_y (y_assign (v := (Vi (((2 * x + 1 + 1 : Nat) : Int)))) rfl) rfl ?_
            have kc131 : Kp (fun k => k = rb ∨ k = g.mb) w w18 := (Kp.trans (Kp.refl _ _) hk19 (fun _ _ e => e))
            have kc132 : Kp (fun k => k = rb ∨ k = g.mb) w w81 := (Kp.then0 kc131 hk82)
            have kc133 : Kp (fun k => k = rb ∨ k = g.mb) w w100 := (Kp.then0 kc132 hk101)
            have kc134 : Kp (fun k => k = rb ∨ k = g.mb) w w122 := (Kp.trans kc133 hk123 (fun _ _ e => e))
            exact s_nil (hK20 ((2 * x + 1 + 1), (swpL ll x (2 * x + 1 + 1)), (aset (aset mm (ix (swpL ll x (2 * x + 1 + 1)) x).id ((x : Nat) : Int)) (ix (swpL ll x (2 * x + 1 + 1)) (2 * x + 1 + 1)).id ((2 * x + 1 + 1 : Nat) : Int))) _ _ ⟨⟨g127, g128, g129, rfl, trivial⟩, kc134, (show OAt g rb cap n (swpL ll x (2 * x + 1 + 1)) (aset (aset mm (ix (swpL ll x (2 * x + 1 + 1)) x).id ((x : Nat) : Int)) (ix (swpL ll x (2 * x + 1 + 1)) (2 * x + 1 + 1)).id ((2 * x + 1 + 1 : Nat) : Int)) w122 from ho124), (show PosOK (swpL ll x (2 * x + 1 + 1)) (aset (aset mm (ix (swpL ll x (2 * x + 1 + 1)) x).id ((x : Nat) : Int)) (ix (swpL ll x (2 * x + 1 + 1)) (2 * x + 1 + 1)).id ((2 * x + 1 + 1 : Nat) : Int)) from hp126), (show DownI (swpL ll x (2 * x + 1 + 1)) N (2 * x + 1 + 1) ((2 * x + 1 + 1) ≠ j) from down_mv (DownI.step hi23 (by omega) (by omega) (by omega) (by omega) (Decidable.not_not.1 c109) (hoA c91))), (show List.Perm (swpL ll x (2 * x + 1 + 1)) l from (swpL_perm (by omega) (by omega)).trans hi24), (show List.drop N (swpL ll x (2 * x + 1 + 1)) = l.drop N from (swp_drop (by omega) (by omega)).trans hi25), (show j ≤ (2 * x + 1 + 1) ∧ (2 * x + 1 + 1) < N from (by omega))⟩ (by show (N - (2 * x + 1 + 1)) < (N - x); omega))
        · refine skip (hK70 _ _ (genC [(0, (.iface 150 (Vp g.ob 0))), (1, (Vi (((j : Nat) : Int)))), (2, (Vi (((N : Nat) : Int)))), (7, (Vi (((x : Nat) : Int)))), (9, (Vi (((2 * x + 1 : Nat) : Int))))] ⟨g84, g85, g86, g87, g88, trivial⟩ ?_))
          clear hK70; rintro E ⟨g135, g136, g137, g138, g139, -⟩
          refine seq fun K140 hK140 => ?_
          refine seq fun K141 hK141 => ?_
          refine reg ?_
          refine s_y (y_move (v := (.iface 150 (Vp g.ob 0))) g135) rfl ?_
          refine s_y (y_move (v := (Vi (((2 * x + 1 : Nat) : Int)))) g139) rfl ?_
          refine s_y (y_move (v := (Vi (((x : Nat) : Int)))) g138) rfl ?_
          have hf142 := (OAt.kp hi21 hk82 id id id)
          refine s_e (e_invoke met_Less rfl (args := [(Vi (((2 * x + 1 : Nat) : Int))), (Vi (((x : Nat) : Int)))]) rfl (less_spec hf142 (2 * x + 1) x (by omega) (by omega))) rfl ?_
          rintro _ w143 ⟨rfl, hk144⟩
          have ka145 := (Kp.then0 ka83 hk144)
          refine s_y (y_notd rfl) rfl ?_
          refine s_nil (hK141 _ _ (genC [(0, (.iface 150 (Vp g.ob 0))), (1, (Vi (((j : Nat) : Int)))), (2, (Vi (((N : Nat) : Int)))), (7, (Vi (((x : Nat) : Int)))), (9, (Vi (((2 * x + 1 : Nat) : Int)))), (39, (.bool (decide (¬ (ahd (ix ll (2 * x + 1)) (ix ll x))))))] ⟨g135, g136, g137, g138, g139, rfl, trivial⟩ ?_))
          clear hK141; rintro E ⟨g146, g147, g148, g149, g150, g151, -⟩
          refine cond_d g151 (fun c152 => ?_) (fun c152 => ?_)
          · refine exit (hK13 _ _ (genC [(1, (Vi (((j : Nat) : Int)))), (7, (Vi (((x : Nat) : Int))))] ⟨g147, g149, trivial⟩ ?_))
            clear hK13; rintro E ⟨g153, g154, -⟩
            refine seq fun K155 hK155 => ?_
            refine reg ?_
            refine s_y (y_move (v := (Vi (((x : Nat) : Int)))) g154) rfl ?_
            refine s_y (y_move (v := (Vi (((j : Nat) : Int)))) g153) rfl ?_
            refine s_y (y_gtr rfl rfl) rfl ?_
            refine s_y (y_assign (v := (.bool (decide ((((j : Nat) : Int) : Int) < ((x : Nat) : Int))))) rfl) rfl ?_
            refine s_nil (hK155 _ _ (genC [(6, (.bool (decide ((((j : Nat) : Int) : Int) < ((x : Nat) : Int)))))] ⟨rfl, trivial⟩ ?_))
            clear hK155; rintro E ⟨g156, -⟩
            refine ret (hret _ _ [(.bool (decide ((((j : Nat) : Int) : Int) < ((x : Nat) : Int))))] ⟨g156, trivial⟩ ?_)
            have hf157 := (OAt.kp hf142 hk144 id id id)
            have hc9 : ∀ k, 0 < k → k < N → (k - 1) / 2 = x → ¬ ahd (ix ll k) (ix ll x) := (hcC (hoB fun _ => c91) c152)
            refine ⟨ll, mm, _, rfl, ⟨hf157, hi22, hi24, hi25, ka145⟩, fun hb => ?_, fun hb => ?_⟩
            · exact hi23.done (fun e => by subst e; simp at hb) hc9
            · have e9 : x = j := by have h8 := of_decide_eq_false hb; omega
              subst e9; exact DownI.up hi23 hc9
          · refine skip (hK140 _ _ (genC [(0, (.iface 150 (Vp g.ob 0))), (1, (Vi (((j : Nat) : Int)))), (2, (Vi (((N : Nat) : Int)))), (7, (Vi (((x : Nat) : Int)))), (9, (Vi (((2 * x + 1 : Nat) : Int))))] ⟨g146, g147, g148, g149, g150, trivial⟩ ?_))
            clear hK140; rintro E ⟨g158, g159, g160, g161, g162, -⟩
            refine seq fun K163 hK163 => ?_
            refine reg ?_
            refine s_y (y_move (v := (.iface 150 (Vp g.ob 0))) g158) rfl ?_
            refine s_y (y_move (v := (Vi (((x : Nat) : Int)))) g161) rfl ?_
            refine s_y (y_move (v := (Vi (((2 * x + 1 : Nat) : Int)))) g162) rfl ?_
            have hf164 := (OAt.kp hf142 hk144 id id id)
            refine s_e (e_invoke met_Swap rfl (args := [(Vi (((x : Nat) : Int))), (Vi (((2 * x + 1 : Nat) : Int)))]) rfl (swap_spec hf164 x (2 * x + 1) (by omega) (by omega) hi22)) rfl ?_
            rintro _ w165 ⟨rfl, ho167, hk166⟩
            have ka168 := (Kp.trans ka145 hk166 (fun _ _ e => e))
            have hlnhp169 := hf164.len; have hp169 := PosOK.swap hi22 (show x < ll.length by omega) (show (2 * x + 1) < ll.length by omega)
            refine s_nil (hK163 _ _ (genC [(0, (.iface 150 (Vp g.ob 0))), (1, (Vi (((j : Nat) : Int)))), (2, (Vi (((N : Nat) : Int)))), (9, (Vi (((2 * x + 1 : Nat) : Int))))] ⟨g158, g159, g160, g162, trivial⟩ ?_))
            clear hK163; rintro E ⟨g170, g171, g172, g173, -⟩
            refine reg ?_
            refine s_y (y_move (v := (Vi (((2 * x + 1 : Nat) : Int)))) g173) rfl ?_
            refine s_y (y_assign (v := (Vi (((2 * x + 1 : Nat) : Int)))) rfl) rfl ?_
            have kc174 : Kp (fun k => k = rb ∨ k = g.mb) w w18 := (Kp.trans (Kp.refl _ _) hk19 (fun _ _ e => e))
            have kc175 : Kp (fun k => k = rb ∨ k = g.mb) w w81 := (Kp.then0 kc174 hk82)
            have kc176 : Kp (fun k => k = rb ∨ k = g.mb) w w143 := (Kp.then0 kc175 hk144)
            have kc177 : Kp (fun k => k = rb ∨ k = g.mb) w w165 := (Kp.trans kc176 hk166 (fun _ _ e => e))
            exact s_nil (hK20 ((2 * x + 1), (swpL ll x (2 * x + 1)), (aset (aset mm (ix (swpL ll x (2 * x + 1)) x).id ((x : Nat) : Int)) (ix (swpL ll x (2 * x + 1)) (2 * x + 1)).id ((2 * x + 1 : Nat) : Int))) _ _ ⟨⟨g170, g171, g172, rfl, trivial⟩, kc177, (show OAt g rb cap n (swpL ll x (2 * x + 1)) (aset (aset mm (ix (swpL ll x (2 * x + 1)) x).id ((x : Nat) : Int)) (ix (swpL ll x (2 * x + 1)) (2 * x + 1)).id ((2 * x + 1 : Nat) : Int)) w165 from ho167), (show PosOK (swpL ll x (2 * x + 1)) (aset (aset mm (ix (swpL ll x (2 * x + 1)) x).id ((x : Nat) : Int)) (ix (swpL ll x (2 * x + 1)) (2 * x + 1)).id ((2 * x + 1 : Nat) : Int)) from hp169), (show DownI (swpL ll x (2 * x + 1)) N (2 * x + 1) ((2 * x + 1) ≠ j) from down_mv (DownI.step hi23 (by omega) (by omega) (by omega) (by omega) (Decidable.not_not.1 c152) (hoB fun _ => c91))), (show List.Perm (swpL ll x (2 * x + 1)) l from (swpL_perm (by omega) (by omega)).trans hi24), (show List.drop N (swpL ll x (2 * x + 1)) = l.drop N from (swp_drop (by omega) (by omega)).trans hi25), (show j ≤ (2 * x + 1) ∧ (2 * x + 1) < N from (by omega))⟩ (by show (N - (2 * x + 1)) < (N - x); omega))
      · refine s_no (.no rfl (c := false) (congrArg Value.bool (decide_eq_false c80)) rfl) rfl ?_
        refine s_no (.no rfl (c := false) (congrArg Value.bool (decide_eq_false c80)) rfl) rfl ?_
        refine s_no (.no rfl (c := false) (congrArg Value.bool (decide_eq_false c80)) rfl) rfl ?_
        refine s_no (.no rfl (c := false) (congrArg Value.bool (decide_eq_false c80)) rfl) rfl ?_
        refine s_y (y_pick_f (congrArg Value.bool (decide_eq_false c80)) (v := Vf) rfl) rfl ?_
        refine s_nil (hK79 _ _ (genC [(0, (.iface 150 (Vp g.ob 0))), (1, (Vi (((j : Nat) : Int)))), (2, (Vi (((N : Nat) : Int)))), (7, (Vi (((x : Nat) : Int)))), (9, (Vi (((2 * x + 1 : Nat) : Int)))), (10, (Vi (((2 * x + 1 + 1 : Nat) : Int)))), (33, Vf)] ⟨g72, g73, g74, g75, g77, g78, rfl, trivial⟩ ?_))
        clear hK79; rintro E ⟨g178, g179, g180, g181, g182, g183, g184, -⟩
        refine cond_f g184 ?_
        refine skip (hK70 _ _ (genC [(0, (.iface 150 (Vp g.ob 0))), (1, (Vi (((j : Nat) : Int)))), (2, (Vi (((N : Nat) : Int)))), (7, (Vi (((x : Nat) : Int)))), (9, (Vi (((2 * x + 1 : Nat) : Int))))] ⟨g178, g179, g180, g181, g182, trivial⟩ ?_))
        clear hK70; rintro E ⟨g185, g186, g187, g188, g189, -⟩
        refine seq fun K190 hK190 => ?_
        refine seq fun K191 hK191 => ?_
        refine reg ?_
        refine s_y (y_move (v := (.iface 150 (Vp g.ob 0))) g185) rfl ?_
        refine s_y (y_move (v := (Vi (((2 * x + 1 : Nat) : Int)))) g189) rfl ?_
        refine s_y (y_move (v := (Vi (((x : Nat) : Int)))) g188) rfl ?_
        refine s_e (e_invoke met_Less rfl (args := [(Vi (((2 * x + 1 : Nat) : Int))), (Vi (((x : Nat) : Int)))]) rfl (less_spec hi21 (2 * x + 1) x (by omega) (by omega))) rfl ?_
        rintro _ w192 ⟨rfl, hk193⟩
        have ka194 := (Kp.then0 ka27 hk193)
        refine s_y (y_notd rfl) rfl ?_
        refine s_nil (hK191 _ _ (genC [(0, (.iface 150 (Vp g.ob 0))), (1, (Vi (((j : Nat) : Int)))), (2, (Vi (((N : Nat) : Int)))), (7, (Vi (((x : Nat) : Int)))), (9, (Vi (((2 * x + 1 : Nat) : Int)))), (39, (.bool (decide (¬ (ahd (ix ll (2 * x + 1)) (ix ll x))))))] ⟨g185, g186, g187, g188, g189, rfl, trivial⟩ ?_))
        clear hK191; rintro E ⟨g195, g196, g197, g198, g199, g200, -⟩
        refine cond_d g200 (fun c201 => ?_) (fun c201 => ?_)
        · refine exit (hK13 _ _ (genC [(1, (Vi (((j : Nat) : Int)))), (7, (Vi (((x : Nat) : Int))))] ⟨g196, g198, trivial⟩ ?_))
          clear hK13; rintro E ⟨g202, g203, -⟩
          refine seq fun K204 hK204 => ?_
          refine reg ?_
          refine s_y (y_move (v := (Vi (((x : Nat) : Int)))) g203) rfl ?_
          refine s_y (y_move (v := (Vi (((j : Nat) : Int)))) g202) rfl ?_
          refine s_y (y_gtr rfl rfl) rfl ?_
          refine s_y (y_assign (v := (.bool (decide ((((j : Nat) : Int) : Int) < ((x : Nat) : Int))))) rfl) rfl ?_
          refine s_nil (hK204 _ _ (genC [(6, (.bool (decide ((((j : Nat) : Int) : Int) < ((x : Nat) : Int)))))] ⟨rfl, trivial⟩ ?_))
          clear hK204; rintro E ⟨g205, -⟩
          refine ret (hret _ _ [(.bool (decide ((((j : Nat) : Int) : Int) < ((x : Nat) : Int))))] ⟨g205, trivial⟩ ?_)
          have hf206 := (OAt.kp hi21 hk193 id id id)
          have hc9 : ∀ k, 0 < k → k < N → (k - 1) / 2 = x → ¬ ahd (ix ll k) (ix ll x) := (hcC (hoB fun h9 => absurd h9 (by omega)) c201)
          refine ⟨ll, mm, _, rfl, ⟨hf206, hi22, hi24, hi25, ka194⟩, fun hb => ?_, fun hb => ?_⟩
          · exact hi23.done (fun e => by subst e; simp at hb) hc9
          · have e9 : x = j := by have h8 := of_decide_eq_false hb; omega
            subst e9; exact DownI.up hi23 hc9
        · refine skip (hK190 _ _ (genC [(0, (.iface 150 (Vp g.ob 0))), (1, (Vi (((j : Nat) : Int)))), (2, (Vi (((N : Nat) : Int)))), (7, (Vi (((x : Nat) : Int)))), (9, (Vi (((2 * x + 1 : Nat) : Int))))] ⟨g195, g196, g197, g198, g199, trivial⟩ ?_))
          clear hK190; rintro E ⟨g207, g208, g209, g210, g211, -⟩
          refine seq fun K212 hK212 => ?_
          refine reg ?_
          refine s_y (y_move (v := (.iface 150 (Vp g.ob 0))) g207) rfl ?_
          refine s_y (y_move (v := (Vi (((x : Nat) : Int)))) g210) rfl ?_
          refine s_y (y_move (v := (Vi (((2 * x + 1 : Nat) : Int)))) g211) rfl ?_
          have hf213 := (OAt.kp hi21 hk193 id id id)
          refine s_e (e_invoke met_Swap rfl (args := [(Vi (((x : Nat) : Int))), (Vi (((2 * x + 1 : Nat) : Int)))]) rfl (swap_spec hf213 x (2 * x + 1) (by omega) (by omega) hi22)) rfl ?_
          rintro _ w214 ⟨rfl, ho216, hk215⟩
          have ka217 := (Kp.trans ka194 hk215 (fun _ _ e => e))
          have hlnhp218 := hf213.len; have hp218 := PosOK.swap hi22 (show x < ll.length by omega) (show (2 * x + 1) < ll.length by omega)
          refine s_nil (hK212 _ _ (genC [(0, (.iface 150 (Vp g.ob 0))), (1, (Vi (((j : Nat) : Int)))), (2, (Vi (((N : Nat) : Int)))), (9, (Vi (((2 * x + 1 : Nat) : Int))))] ⟨g207, g208, g209, g211, trivial⟩ ?_))
          clear hK212; rintro E ⟨g219, g220, g221, g222, -⟩
          refine reg ?_
          refine s_y (y_move (v := (Vi (((2 * x + 1 : Nat) : Int)))) g222) rfl ?_
          refine s_y (y_assign (v := (Vi (((2 * x + 1 : Nat) : Int)))) rfl) rfl ?_
          have kc223 : Kp (fun k => k = rb ∨ k = g.mb) w w18 := (Kp.trans (Kp.refl _ _) hk19 (fun _ _ e => e))
          have kc224 : Kp (fun k => k = rb ∨ k = g.mb) w w192 := (Kp.then0 kc223 hk193)
          have kc225 : Kp (fun k => k = rb ∨ k = g.mb) w w214 := (Kp.trans kc224 hk215 (fun _ _ e => e))
          exact s_nil (hK20 ((2 * x + 1), (swpL ll x (2 * x + 1)), (aset (aset mm (ix (swpL ll x (2 * x + 1)) x).id ((x : Nat) : Int)) (ix (swpL ll x (2 * x + 1)) (2 * x + 1)).id ((2 * x + 1 : Nat) : Int))) _ _ ⟨⟨g219, g220, g221, rfl, trivial⟩, kc225, (show OAt g rb cap n (swpL ll x (2 * x + 1)) (aset (aset mm (ix (swpL ll x (2 * x + 1)) x).id ((x : Nat) : Int)) (ix (swpL ll x (2 * x + 1)) (2 * x + 1)).id ((2 * x + 1 : Nat) : Int)) w214 from ho216), (show PosOK (swpL ll x (2 * x + 1)) (aset (aset mm (ix (swpL ll x (2 * x + 1)) x).id ((x : Nat) : Int)) (ix (swpL ll x (2 * x + 1)) (2 * x + 1)).id ((2 * x + 1 : Nat) : Int)) from hp218), (show DownI (swpL ll x (2 * x + 1)) N (2 * x + 1) ((2 * x + 1) ≠ j) from down_mv (DownI.step hi23 (by omega) (by omega) (by omega) (by omega) (Decidable.not_not.1 c201) (hoB fun h9 => absurd h9 (by omega)))), (show List.Perm (swpL ll x (2 * x + 1)) l from (swpL_perm (by omega) (by omega)).trans hi24), (show List.drop N (swpL ll x (2 * x + 1)) = l.drop N from (swp_drop (by omega) (by omega)).trans hi25), (show j ≤ (2 * x + 1) ∧ (2 * x + 1) < N from (by omega))⟩ (by show (N - (2 * x + 1)) < (N - x); omega))

end Go.Proofs.YtdcnblafepgheaaDoor
