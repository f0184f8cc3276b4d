/-
  Written by a program (wip/walks).
-/
import Derived.Test.YtdcnblafepgheaaDoorE1
namespace Go.Proofs.YtdcnblafepgheaaDoor
open Go Go.V
set_option maxRecDepth 100000
def ord (l : List V4) (a : V4) : List V4 := if a ∈ l then a :: l.erase a else l
theorem getq_len {α : Type} {l : List α} {i : Nat} {x : α} (h : l[i]? = some x) : i < l.length := (List.getElem?_eq_some_iff.1 h).1
theorem eraseIdx_parts {α : Type} (l : List α) (i : Nat) : l.take i ++ l.drop (i + 1) = l.eraseIdx i := by
  induction l generalizing i with
  | nil => simp
  | cons a l ih => cases i with
    | zero => simp
    | succ i => simp [ih]
theorem erase_at {l : List V4} {i : Nat} {x : V4} (h : l[i]? = some x) (hb : ∀ j, j < i → l[j]? ≠ some x) : l.eraseIdx i = l.erase x := by
  induction l generalizing i with
  | nil => cases h
  | cons a l ih =>
    cases i with
    | zero => simp at h; subst h; simp
    | succ i =>
      have h0 : a ≠ x := by have := hb 0 (by omega); simpa using this
      rw [List.erase_cons_tail (by simpa using h0), List.eraseIdx_cons_succ, ih (by simpa using h) (fun j hj => by have := hb (j + 1) (by omega); simpa using this)]
theorem ord_at {l : List V4} {i : Nat} {x : V4} (h : l[i]? = some x) (hb : ∀ j, j < i → l[j]? ≠ some x) : ord l x = x :: l.eraseIdx i := by
  unfold ord; rw [if_pos (List.mem_of_getElem? h), erase_at h hb]
theorem ord_zero {l : List V4} {x : V4} (h : l[0]? = some x) : ord l x = l := by
  rw [ord_at h (by intro j hj; omega)]
  cases l with
  | nil => cases h
  | cons a l => simp at h; subst h; rfl
theorem clone4_spec {b o n c : Nat} {l : List V4} {w : World} (hn : n = l.length) (hne : l ≠ []) (hmax : l.length ≤ 1000) (hl : Elts V4.cs 4 w b o l) : Rets Tryd.prog 82 #[(.slice (some ⟨b, o, none⟩) n c)] w fun v w' => (∃ g cap, v = .slice (some ⟨g, 0, none⟩) n cap ∧ w.heap.size ≤ g ∧ OwnC V4.cs 4 w' g 27 cap l) ∧ K0 w w' := by
  refine enter Tryd.func82 rfl Tryd.ntmps82 rfl fun Q hret hend E hE => ?_
  have g1 : E 0 = (.slice (some ⟨b, o, none⟩) n c) := hE 0
  clear hE
  refine seq fun K2 hK2 => ?_
  refine reg ?_
  refine s_y (y_assign (v := (.slice none 0 0)) rfl) rfl ?_
  refine s_nil (hK2 _ _ (genC [(0, (.slice (some ⟨b, o, none⟩) n c))] ⟨g1, trivial⟩ ?_))
  clear hK2; rintro E ⟨g3, -⟩
  refine seq fun K4 hK4 => ?_
  refine seq fun K5 hK5 => ?_
  refine reg ?_
  refine s_y (y_move (v := (.slice (some ⟨b, o, none⟩) n c)) g3) rfl ?_
  refine s_y (y_seq Tryd.underlying28 rfl rfl) rfl ?_
  refine s_nil (hK5 _ _ (genC [(0, (.slice (some ⟨b, o, none⟩) n c)), (4, Vf)] ⟨g3, rfl, trivial⟩ ?_))
  clear hK5; rintro E ⟨g6, g7, -⟩
  refine cond_f g7 ?_
  refine skip (hK4 _ _ (genC [(0, (.slice (some ⟨b, o, none⟩) n c))] ⟨g6, trivial⟩ ?_))
  clear hK4; rintro E ⟨g8, -⟩
  refine seq fun K9 hK9 => ?_
  refine reg ?_
  refine s_e (e_buildSlice (cs := #[]) (e := 27) (vs := []) rfl (fun _ => by kernel_rfl)) rfl ?_
  rintro _ w10 ⟨rfl, hb11, hk12⟩
  have ka13 : Kp (fun _ => False) w w10 := (Kp.then0 (Kp.refl _ _) hk12)
  refine s_y (y_move (v := (.slice (some ⟨b, o, none⟩) n c)) g8) rfl ?_
  have hf14 := (hl.kp hk12 id)
  have hown : OwnS V4.cs 4 w10 27 (.slice (some ⟨w.heap.size, 0, none⟩) 0 0) [] := ⟨⟨rfl, .inr ⟨_, 0, #[], rfl, Nat.zero_le _, hb11, Nat.le_refl _, by decide, rfl, rfl⟩⟩, fun _ => rfl⟩
  refine s_e (e_append so28 ti27 rfl (by decide) rfl hown rfl hn hf14 one_v4 (by simp; omega) (by simp [maxLen]; omega)) rfl ?_
  rintro u18 w15 ⟨ho16, hk17, hat19⟩
  replace hk17 : Kp (· = w.heap.size) w10 w15 := hk17.mono fun i _ e => by injection e with e; exact e.symm
  have ka20 := (Kp.fresh ka13 hk17 fun _ e => nl (nl (Nat.le_refl _) (Nat.le_refl _)) (Nat.le_of_eq e.symm))
  refine s_y (y_assign (v := u18) rfl) rfl ?_
  refine s_nil (hK9 _ _ (genC [(2, u18)] ⟨rfl, trivial⟩ ?_))
  clear hK9; rintro E ⟨g21, -⟩
  refine ret (hret _ _ [u18] ⟨g21, trivial⟩ ?_)
  rw [List.nil_append] at ho16
  obtain ⟨g, cap, rfl, hC⟩ := ho16.ownC hne
  subst hn
  refine ⟨⟨g, cap, rfl, ?_, hC⟩, ka20⟩
  rcases hat19 with e | e <;> (injection e with e; subst e)
  · exact (Nat.le_refl _)
  · exact hk12.size

theorem delete4_spec {g n cap i : Nat} {l : List V4} {w : World} (hn : n = l.length) (hi : i < n) (hmax : l.length ≤ 1000) (hC : OwnC V4.cs 4 w g 27 cap l) : Rets Tryd.prog 122 #[(.slice (some ⟨g, 0, none⟩) n cap), (.int .i64 (((i : Nat) : Int))), (.int .i64 (((i : Nat) : Int) + 1))] w fun v w' => v = .slice (some ⟨g, 0, none⟩) (n - 1) cap ∧ OwnC V4.cs 4 w' g 27 cap (l.eraseIdx i) ∧ Kp (· = g) w w' := by
  refine enter Tryd.func122 rfl Tryd.ntmps122 rfl fun Q hret hend E hE => ?_
  have g1 : E 0 = (.slice (some ⟨g, 0, none⟩) n cap) := hE 0
  have g2 : E 1 = (Vi (((i : Nat) : Int))) := hE 1
  have g3 : E 2 = (Vi (((i : Nat) : Int) + 1)) := hE 2
  clear hE
  have hcl := hC.le; have hcm := hC.capmax; have hcm2 : cap ≤ 9223372036854775807 := hcm
  refine seq fun K4 hK4 => ?_
  refine reg ?_
  refine s_y (y_assign (v := (.slice none 0 0)) rfl) rfl ?_
  refine s_nil (hK4 _ _ (genC [(0, (.slice (some ⟨g, 0, none⟩) n cap)), (1, (Vi (((i : Nat) : Int)))), (2, (Vi (((i : Nat) : Int) + 1)))] ⟨g1, g2, g3, trivial⟩ ?_))
  clear hK4; rintro E ⟨g5, g6, g7, -⟩
  refine seq fun K8 hK8 => ?_
  refine reg ?_
  refine s_y (y_move (v := (.slice (some ⟨g, 0, none⟩) n cap)) g5) rfl ?_
  refine s_y (y_move (v := (Vi (((i : Nat) : Int)))) g6) rfl ?_
  refine s_y (y_move (v := (Vi (((i : Nat) : Int) + 1))) g7) rfl ?_
  refine s_y (y_move (v := (.slice (some ⟨g, 0, none⟩) n cap)) g5) rfl ?_
  refine s_y (y_lenS so28 rfl) rfl ?_
  refine s_y (y_slice3 so28 sz27 rfl (l := i) (h := (i + 1)) (m := n) rfl rfl rfl (by omega) (by omega) (by omega)) rfl ?_
  refine s_nil (hK8 _ _ (genC [(0, (.slice (some ⟨g, 0, none⟩) n cap)), (1, (Vi (((i : Nat) : Int)))), (2, (Vi (((i : Nat) : Int) + 1)))] ⟨g5, g6, g7, trivial⟩ ?_))
  clear hK8; rintro E ⟨g9, g10, g11, -⟩
  refine seq fun K12 hK12 => ?_
  refine seq fun K13 hK13 => ?_
  refine reg ?_
  refine s_y (y_move (v := (Vi (((i : Nat) : Int)))) g10) rfl ?_
  refine s_y (y_move (v := (Vi (((i : Nat) : Int) + 1))) g11) rfl ?_
  refine s_y (y_eql rfl rfl) rfl ?_
  refine s_nil (hK13 _ _ (genC [(0, (.slice (some ⟨g, 0, none⟩) n cap)), (1, (Vi (((i : Nat) : Int)))), (2, (Vi (((i : Nat) : Int) + 1))), (16, (.bool (decide ((((i : Nat) : Int) : Int) = ((i : Nat) : Int) + 1))))] ⟨g9, g10, g11, rfl, trivial⟩ ?_))
  clear hK13; rintro E ⟨g14, g15, g16, g17, -⟩
  refine cond_d g17 (fun c18 => ?_) (fun c18 => ?_)
  · omega
  · refine skip (hK12 _ _ (genC [(0, (.slice (some ⟨g, 0, none⟩) n cap)), (1, (Vi (((i : Nat) : Int)))), (2, (Vi (((i : Nat) : Int) + 1)))] ⟨g14, g15, g16, trivial⟩ ?_))
    clear hK12; rintro E ⟨g19, g20, g21, -⟩
    refine seq fun K22 hK22 => ?_
    refine reg ?_
    refine s_y (y_move (v := (.slice (some ⟨g, 0, none⟩) n cap)) g19) rfl ?_
    refine s_y (y_lenS so28 rfl) rfl ?_
    refine s_y (y_assign (v := (Vi (((n : Nat) : Int)))) rfl) rfl ?_
    refine s_nil (hK22 _ _ (genC [(0, (.slice (some ⟨g, 0, none⟩) n cap)), (1, (Vi (((i : Nat) : Int)))), (2, (Vi (((i : Nat) : Int) + 1))), (7, (Vi (((n : Nat) : Int))))] ⟨g19, g20, g21, rfl, trivial⟩ ?_))
    clear hK22; rintro E ⟨g23, g24, g25, g26, -⟩
    refine seq fun K27 hK27 => ?_
    refine regD (· = g) (.take 0 (.take 1 (.take 2 (.take 3 (.take 4 (.take 5 (.one 6 (.take 7 .done)))))))) mixed (by kernel_rfl) fun w28 hh29 hk30 => ?_
    have ka31 : Kp (· = g) w w28 := (Kp.then0 (Kp.refl _ _) hk30)
    refine o_y rfl (y_move (v := (.slice (some ⟨g, 0, none⟩) n cap)) g23) ?_
    refine o_y rfl (y_move (v := (Vi (((i : Nat) : Int)))) g24) ?_
    refine o_y rfl (y_slice0 so28 sz27 rfl (h := i) rfl (by omega)) ?_
    refine o_y rfl (y_move (v := (.slice (some ⟨g, 0, none⟩) n cap)) g23) ?_
    refine o_y rfl (y_move (v := (Vi (((i : Nat) : Int) + 1))) g25) ?_
    refine o_y rfl (y_slice1so so28 sz27 rfl (l := (i + 1)) rfl (by omega) (by omega)) ?_
    refine o_one ?_
    have hf32 := (hC.kp hk30 id)
    have hel9 := elts_so (c := cap) (l := i + 1) (OwnC.elts hf32) (by omega)
    refine c_e rfl (e_appendR (m := n - (i + 1)) (n := n - 1) so28 ti27 rfl hf32 (by omega) rfl (by simp [hn]) hel9 one_v4 (by simp; omega) (by simp; omega)) ?_
    rintro _ w33 ⟨rfl, hC34, hk35⟩
    have ka36 := (Kp.trans ka31 hk35 (fun _ _ e => e))
    have ks37 : Kp (· = g) w28 w33 := (Kp.trans (Kp.refl _ _) hk35 (fun _ _ e => e))
    refine ⟨ks37, ?_⟩
    refine o_y rfl (y_assign (v := (.slice (some ⟨g, 0, none⟩) (n - 1) cap)) rfl) ?_
    refine o_done (hK27 _ _ (genC [(0, (.slice (some ⟨g, 0, none⟩) (n - 1) cap)), (7, (Vi (((n : Nat) : Int))))] ⟨rfl, g26, trivial⟩ ?_))
    clear hK27; rintro E ⟨g38, g39, -⟩
    refine seq fun K40 hK40 => ?_
    refine reg ?_
    refine s_y (y_move (v := (.slice (some ⟨g, 0, none⟩) (n - 1) cap)) g38) rfl ?_
    refine s_y (y_move (v := (.slice (some ⟨g, 0, none⟩) (n - 1) cap)) g38) rfl ?_
    refine s_y (y_lenS so28 rfl) rfl ?_
    refine s_y (y_move (v := (Vi (((n : Nat) : Int)))) g39) rfl ?_
    refine s_y (y_slice2 so28 sz27 rfl (l := (n - 1)) (h := n) rfl rfl (by omega) (by omega) (by omega)) rfl ?_
    refine s_e0 (e_clear (k := n - 1) (n := n - (n - 1)) (x0 := (⟨0, 0, 0, 0⟩ : V4)) so28 ze27 rfl rfl (by omega) hC34 (by simp; omega) one_v4 (by omega)) ?_
    rintro _ w41 ⟨hC42, hk43⟩
    have ka44 := (Kp.trans ka36 hk43 (fun _ _ e => e))
    refine s_nil (hK40 _ _ (genC [(0, (.slice (some ⟨g, 0, none⟩) (n - 1) cap))] ⟨g38, trivial⟩ ?_))
    clear hK40; rintro E ⟨g45, -⟩
    refine seq fun K46 hK46 => ?_
    refine reg ?_
    refine s_y (y_move (v := (.slice (some ⟨g, 0, none⟩) (n - 1) cap)) g45) rfl ?_
    refine s_y (y_assign (v := (.slice (some ⟨g, 0, none⟩) (n - 1) cap)) rfl) rfl ?_
    refine s_nil (hK46 _ _ (genC [(6, (.slice (some ⟨g, 0, none⟩) (n - 1) cap))] ⟨rfl, trivial⟩ ?_))
    clear hK46; rintro E ⟨g47, -⟩
    refine ret (hret _ _ [(.slice (some ⟨g, 0, none⟩) (n - 1) cap)] ⟨g47, trivial⟩ ?_)
    exact ⟨rfl, eraseIdx_parts l i ▸ hC42, ka44⟩

theorem ov_run {w : World} {b la ca g k lb cb : Nat} {csA csB : Array Value} (hA : Blk w b csA 27) (hB : Blk w g csB 27) (hne : b ≠ g) (hs : csB.size ≠ 0) :
    (Extern.SlicesOverlaps.overlaps #[28, 28] #[4] #[.slice (some ⟨b, 0, none⟩) la ca, .slice (some ⟨g, k, none⟩) lb cb]).run Tryd.prog w = .ok (.bool false) w :=
  Lib.run_overlaps_apart w 28 4 27 Tryd.underlying28 4 sz27 ⟨b, 0, none⟩ ⟨g, k, none⟩ la ca lb cb hne 27 27 csA.size csB.size (by simp [World.shape?, hA]) (by simp [World.shape?, hB]) hs (frozen_of hA 0) (frozen_of hA _)
theorem insert4_spec {g n cap b : Nat} {x : V4} {l : List V4} {w : World} (hn : n = l.length) (h0 : 0 < n) (hr : n + 1 ≤ cap) (hmax : l.length ≤ 1000) (hC : OwnC V4.cs 4 w g 27 cap l) (hb : Blk w b #[u8 x.a, u8 x.b, u8 x.c, u8 x.d] 27) (hne : b ≠ g) : Rets Tryd.prog 121 #[(.slice (some ⟨g, 0, none⟩) n cap), (.int .i64 0), (.slice (some ⟨b, 0, none⟩) 1 1)] w fun v w' => v = .slice (some ⟨g, 0, none⟩) (n + 1) cap ∧ OwnC V4.cs 4 w' g 27 cap (x :: l) ∧ Kp (· = g) w w' := by
  refine enter Tryd.func121 rfl Tryd.ntmps121 rfl fun Q hret hend E hE => ?_
  have g1 : E 0 = (.slice (some ⟨g, 0, none⟩) n cap) := hE 0
  have g2 : E 1 = (Vi 0) := hE 1
  have g3 : E 2 = (.slice (some ⟨b, 0, none⟩) 1 1) := hE 2
  clear hE
  have hcl := hC.le; have hcm := hC.capmax; have hcm2 : cap ≤ 9223372036854775807 := hcm
  refine seq fun K4 hK4 => ?_
  refine reg ?_
  refine s_y (y_assign (v := (.slice none 0 0)) rfl) rfl ?_
  refine s_nil (hK4 _ _ (genC [(0, (.slice (some ⟨g, 0, none⟩) n cap)), (1, (Vi 0)), (2, (.slice (some ⟨b, 0, none⟩) 1 1))] ⟨g1, g2, g3, trivial⟩ ?_))
  clear hK4; rintro E ⟨g5, g6, g7, -⟩
  refine seq fun K8 hK8 => ?_
  refine reg ?_
  refine s_y (y_move (v := (.slice (some ⟨g, 0, none⟩) n cap)) g5) rfl ?_
  refine s_y (y_move (v := (Vi 0)) g6) rfl ?_
  refine s_y (y_slice1 so28 sz27 rfl (l := 0) rfl (by omega) (by omega) (by omega)) rfl ?_
  refine s_nil (hK8 _ _ (genC [(0, (.slice (some ⟨g, 0, none⟩) n cap)), (1, (Vi 0)), (2, (.slice (some ⟨b, 0, none⟩) 1 1))] ⟨g5, g6, g7, trivial⟩ ?_))
  clear hK8; rintro E ⟨g9, g10, g11, -⟩
  refine seq fun K12 hK12 => ?_
  refine reg ?_
  refine s_y (y_move (v := (.slice (some ⟨b, 0, none⟩) 1 1)) g11) rfl ?_
  refine s_y (y_lenS so28 rfl) rfl ?_
  refine s_y (y_assign (v := (Vi (((1 : Nat) : Int)))) rfl) rfl ?_
  refine s_nil (hK12 _ _ (genC [(0, (.slice (some ⟨g, 0, none⟩) n cap)), (1, (Vi 0)), (2, (.slice (some ⟨b, 0, none⟩) 1 1)), (7, (Vi (((1 : Nat) : Int))))] ⟨g9, g10, g11, rfl, trivial⟩ ?_))
  clear hK12; rintro E ⟨g13, g14, g15, g16, -⟩
  refine seq fun K17 hK17 => ?_
  refine seq fun K18 hK18 => ?_
  refine reg ?_
  refine s_y (y_move (v := (Vi (((1 : Nat) : Int)))) g16) rfl ?_
  refine s_y (y_eql rfl rfl) rfl ?_
  refine s_nil (hK18 _ _ (genC [(0, (.slice (some ⟨g, 0, none⟩) n cap)), (1, (Vi 0)), (2, (.slice (some ⟨b, 0, none⟩) 1 1)), (7, (Vi (((1 : Nat) : Int)))), (16, (.bool (decide ((((1 : Nat) : Int) : Int) = 0))))] ⟨g13, g14, g15, g16, rfl, trivial⟩ ?_))
  clear hK18; rintro E ⟨g19, g20, g21, g22, g23, -⟩
  refine cond_d g23 (fun c24 => ?_) (fun c24 => ?_)
  · omega
  · refine skip (hK17 _ _ (genC [(0, (.slice (some ⟨g, 0, none⟩) n cap)), (1, (Vi 0)), (2, (.slice (some ⟨b, 0, none⟩) 1 1)), (7, (Vi (((1 : Nat) : Int))))] ⟨g19, g20, g21, g22, trivial⟩ ?_))
    clear hK17; rintro E ⟨g25, g26, g27, g28, -⟩
    refine seq fun K29 hK29 => ?_
    refine reg ?_
    refine s_y (y_move (v := (.slice (some ⟨g, 0, none⟩) n cap)) g25) rfl ?_
    refine s_y (y_lenS so28 rfl) rfl ?_
    refine s_y (y_assign (v := (Vi (((n : Nat) : Int)))) rfl) rfl ?_
    refine s_nil (hK29 _ _ (genC [(0, (.slice (some ⟨g, 0, none⟩) n cap)), (1, (Vi 0)), (2, (.slice (some ⟨b, 0, none⟩) 1 1)), (7, (Vi (((1 : Nat) : Int)))), (8, (Vi (((n : Nat) : Int))))] ⟨g25, g26, g27, g28, rfl, trivial⟩ ?_))
    clear hK29; rintro E ⟨g30, g31, g32, g33, g34, -⟩
    refine seq fun K35 hK35 => ?_
    refine seq fun K36 hK36 => ?_
    refine reg ?_
    refine s_y (y_move (v := (Vi 0)) g31) rfl ?_
    refine s_y (y_move (v := (Vi (((n : Nat) : Int)))) g34) rfl ?_
    refine s_y (y_eql rfl rfl) rfl ?_
    refine s_nil (hK36 _ _ (genC [(0, (.slice (some ⟨g, 0, none⟩) n cap)), (1, (Vi 0)), (2, (.slice (some ⟨b, 0, none⟩) 1 1)), (7, (Vi (((1 : Nat) : Int)))), (8, (Vi (((n : Nat) : Int)))), (22, (.bool (decide ((0 : Int) = ((n : Nat) : Int)))))] ⟨g30, g31, g32, g33, g34, rfl, trivial⟩ ?_))
    clear hK36; rintro E ⟨g37, g38, g39, g40, g41, g42, -⟩
    refine cond_d g42 (fun c43 => ?_) (fun c43 => ?_)
    · omega
    · refine skip (hK35 _ _ (genC [(0, (.slice (some ⟨g, 0, none⟩) n cap)), (1, (Vi 0)), (2, (.slice (some ⟨b, 0, none⟩) 1 1)), (7, (Vi (((1 : Nat) : Int)))), (8, (Vi (((n : Nat) : Int))))] ⟨g37, g38, g39, g40, g41, trivial⟩ ?_))
      clear hK35; rintro E ⟨g44, g45, g46, g47, g48, -⟩
      refine seq fun K49 hK49 => ?_
      refine seq fun K50 hK50 => ?_
      refine reg ?_
      refine s_y (y_move (v := (Vi (((n : Nat) : Int)))) g48) rfl ?_
      refine s_y (y_move (v := (Vi (((1 : Nat) : Int)))) g47) rfl ?_
      refine s_y (y_add rfl rfl (c := ((n : Nat) : Int) + ((1 : Nat) : Int)) (by omega) rfl) rfl ?_
      refine s_y (y_move (v := (.slice (some ⟨g, 0, none⟩) n cap)) g44) rfl ?_
      refine s_y (y_cap so28 rfl) rfl ?_
      refine s_y (y_gtr rfl rfl) rfl ?_
      refine s_nil (hK50 _ _ (genC [(0, (.slice (some ⟨g, 0, none⟩) n cap)), (1, (Vi 0)), (2, (.slice (some ⟨b, 0, none⟩) 1 1)), (7, (Vi (((1 : Nat) : Int)))), (8, (Vi (((n : Nat) : Int)))), (31, (.bool (decide ((((cap : Nat) : Int) : Int) < ((n : Nat) : Int) + ((1 : Nat) : Int)))))] ⟨g44, g45, g46, g47, g48, rfl, trivial⟩ ?_))
      clear hK50; rintro E ⟨g51, g52, g53, g54, g55, g56, -⟩
      refine cond_d g56 (fun c57 => ?_) (fun c57 => ?_)
      · omega
      · refine skip (hK49 _ _ (genC [(0, (.slice (some ⟨g, 0, none⟩) n cap)), (1, (Vi 0)), (2, (.slice (some ⟨b, 0, none⟩) 1 1)), (7, (Vi (((1 : Nat) : Int)))), (8, (Vi (((n : Nat) : Int))))] ⟨g51, g52, g53, g54, g55, trivial⟩ ?_))
        clear hK49; rintro E ⟨g58, g59, g60, g61, g62, -⟩
        refine seq fun K63 hK63 => ?_
        refine reg ?_
        refine s_y (y_move (v := (.slice (some ⟨g, 0, none⟩) n cap)) g58) rfl ?_
        refine s_y (y_move (v := (Vi (((n : Nat) : Int)))) g62) rfl ?_
        refine s_y (y_move (v := (Vi (((1 : Nat) : Int)))) g61) rfl ?_
        refine s_y (y_add rfl rfl (c := ((n : Nat) : Int) + ((1 : Nat) : Int)) (by omega) rfl) rfl ?_
        refine s_y (y_slice0 so28 sz27 rfl (h := (n + 1)) rfl (by omega)) rfl ?_
        refine s_y (y_assign (v := (.slice (some ⟨g, 0, none⟩) (n + 1) cap)) rfl) rfl ?_
        refine s_nil (hK63 _ _ (genC [(0, (.slice (some ⟨g, 0, none⟩) (n + 1) cap)), (1, (Vi 0)), (2, (.slice (some ⟨b, 0, none⟩) 1 1)), (7, (Vi (((1 : Nat) : Int)))), (8, (Vi (((n : Nat) : Int))))] ⟨rfl, g59, g60, g61, g62, trivial⟩ ?_))
        clear hK63; rintro E ⟨g64, g65, g66, g67, g68, -⟩
        refine seq fun K69 hK69 => ?_
        refine seq fun K70 hK70 => ?_
        refine reg ?_
        refine s_y (y_move (v := (.slice (some ⟨b, 0, none⟩) 1 1)) g66) rfl ?_
        refine s_y (y_move (v := (.slice (some ⟨g, 0, none⟩) (n + 1) cap)) g64) rfl ?_
        refine s_y (y_move (v := (Vi 0)) g65) rfl ?_
        refine s_y (y_move (v := (Vi (((1 : Nat) : Int)))) g67) rfl ?_
        refine s_y (y_add rfl rfl (c := 0 + ((1 : Nat) : Int)) (by omega) rfl) rfl ?_
        refine s_y (y_slice1 so28 sz27 rfl (l := (0 + 1)) rfl (by omega) (by omega) (by omega)) rfl ?_
        have hC9 := hC; obtain ⟨cur9, hcur9, hsz9, _⟩ := hC9
        refine s_y (e_extern Tryd.func137 rfl rfl rfl rfl (args := [(.slice (some ⟨b, 0, none⟩) 1 1), (.slice (some ⟨g, 0 + (0 + 1) * 4, none⟩) (n + 1 - (0 + 1)) (cap - (0 + 1)))]) (arr_ev2 rfl rfl) (ov_run hb hcur9 hne (by rw [List.size_toArray, hsz9]; omega))) rfl ?_
        refine s_y (y_not rfl) rfl ?_
        refine s_nil (hK70 _ _ (genC [(0, (.slice (some ⟨g, 0, none⟩) (n + 1) cap)), (1, (Vi 0)), (2, (.slice (some ⟨b, 0, none⟩) 1 1)), (7, (Vi (((1 : Nat) : Int)))), (8, (Vi (((n : Nat) : Int)))), (68, Vt)] ⟨g64, g65, g66, g67, g68, rfl, trivial⟩ ?_))
        clear hK70; rintro E ⟨g71, g72, g73, g74, g75, g76, -⟩
        refine cond_t g76 ?_
        refine seq fun K77 hK77 => ?_
        refine regD (· = g) (.take 0 (.take 1 (.take 2 (.take 3 (.take 4 (.take 5 (.take 6 (.take 7 (.one 8 .done))))))))) mixed (by kernel_rfl) fun w78 hh79 hk80 => ?_
        have ka81 : Kp (· = g) w w78 := (Kp.then0 (Kp.refl _ _) hk80)
        refine o_y rfl (y_move (v := (.slice (some ⟨g, 0, none⟩) (n + 1) cap)) g71) ?_
        refine o_y rfl (y_move (v := (Vi 0)) g72) ?_
        refine o_y rfl (y_move (v := (Vi (((1 : Nat) : Int)))) g74) ?_
        refine o_y rfl (y_add rfl rfl (c := 0 + ((1 : Nat) : Int)) (by omega) rfl) ?_
        refine o_y rfl (y_slice1 so28 sz27 rfl (l := (0 + 1)) rfl (by omega) (by omega) (by omega)) ?_
        refine o_y rfl (y_move (v := (.slice (some ⟨g, 0, none⟩) (n + 1) cap)) g71) ?_
        refine o_y rfl (y_move (v := (Vi 0)) g72) ?_
        refine o_y rfl (y_slice1 so28 sz27 rfl (l := 0) rfl (by omega) (by omega) (by omega)) ?_
        refine o_one ?_
        have hf82 := (hC.kp hk80 id)
        refine c_e rfl (e_copy (k := 1) (news := l) so28 ti27 rfl hf82 (by omega) rfl (by simp only [Nat.min_def]; split <;> omega) (OwnC.elts hf82) one_v4 (by omega)) ?_
        rintro _ w83 ⟨rfl, hC84, hk85⟩
        have ka86 := (Kp.trans ka81 hk85 (fun _ _ e => e))
        have ks87 : Kp (· = g) w78 w83 := (Kp.trans (Kp.refl _ _) hk85 (fun _ _ e => e))
        refine ⟨ks87, ?_⟩
        refine o_done (hK77 _ _ (genC [(0, (.slice (some ⟨g, 0, none⟩) (n + 1) cap)), (1, (Vi 0)), (2, (.slice (some ⟨b, 0, none⟩) 1 1))] ⟨g71, g72, g73, trivial⟩ ?_))
        clear hK77; rintro E ⟨g88, g89, g90, -⟩
        refine seq fun K91 hK91 => ?_
        refine reg ?_
        refine s_y (y_move (v := (.slice (some ⟨g, 0, none⟩) (n + 1) cap)) g88) rfl ?_
        refine s_y (y_move (v := (Vi 0)) g89) rfl ?_
        refine s_y (y_slice1 so28 sz27 rfl (l := 0) rfl (by omega) (by omega) (by omega)) rfl ?_
        refine s_y (y_move (v := (.slice (some ⟨b, 0, none⟩) 1 1)) g90) rfl ?_
        have hb92 := (hk85.get (hk80.get0 hb) hne)
        have hel8 : Elts V4.cs 4 w83 b 0 [x] := ⟨_, _, _, hb92, fun i y hy => by
            cases i with
            | zero => simp at hy; subst hy; exact ⟨rfl, rfl⟩
            | succ i => simp at hy⟩
        refine s_e (e_copy (k := 0) (news := [x]) so28 ti27 rfl hC84 (by omega) rfl (by simp only [Nat.min_def, List.length_singleton]; split <;> omega) hel8 one_v4 (by simp; omega)) rfl ?_
        rintro _ w93 ⟨rfl, hC94, hk95⟩
        have ka96 := (Kp.trans ka86 hk95 (fun _ _ e => e))
        refine s_nil (hK91 _ _ (genC [(0, (.slice (some ⟨g, 0, none⟩) (n + 1) cap))] ⟨g88, trivial⟩ ?_))
        clear hK91; rintro E ⟨g97, -⟩
        refine seq fun K98 hK98 => ?_
        refine reg ?_
        refine s_y (y_move (v := (.slice (some ⟨g, 0, none⟩) (n + 1) cap)) g97) rfl ?_
        refine s_y (y_assign (v := (.slice (some ⟨g, 0, none⟩) (n + 1) cap)) rfl) rfl ?_
        refine s_nil (hK98 _ _ (genC [(6, (.slice (some ⟨g, 0, none⟩) (n + 1) cap))] ⟨rfl, trivial⟩ ?_))
        clear hK98; rintro E ⟨g99, -⟩
        refine ret (hret _ _ [(.slice (some ⟨g, 0, none⟩) (n + 1) cap)] ⟨g99, trivial⟩ ?_)
        have e9 : ([] ++ [x] ++ (l.take 1 ++ l ++ l.drop (1 + l.length)).drop (0 + 1)) = x :: l := by
            cases l with
            | nil => simp at hn; omega
            | cons a l => simp
        have hf9 : OwnC V4.cs 4 w93 g 27 cap ([] ++ [x] ++ (l.take 1 ++ l ++ l.drop (1 + l.length)).drop (0 + 1)) := hC94
        rw [e9] at hf9
        exact ⟨rfl, hf9, ka96⟩

theorem order_spec {g : PoolG} {held : List (T4 × Bool)} {w : World} (h : PoolIs g held w) (ok : PoolOk g) (a : V4) : Rets Tryd.prog 105 #[(.pointer (some ⟨g.pb, 0, none⟩)), (v4 a)] w fun v w' => (∃ b n c, v = .slice (some ⟨b, 0, none⟩) n c ∧ n = (ord g.l a).length ∧ w.heap.size ≤ b ∧ Elts V4.cs 4 w' b 0 (ord g.l a)) ∧ K0 w w' := by
  refine enter Tryd.func105 rfl Tryd.ntmps105 rfl fun Q hret hend E hE => ?_
  have g1 : E 0 = (Vp g.pb 0) := hE 0
  have g2 : E 1 = (v4 a) := hE 1
  clear hE
  have hb0 := h.blk; have hl0 := h.row; have hm0 := h.map; have hn1 : g.pb ≠ g.mb := blk_ne_map h.blk h.map; have hn2 : g.lb ≠ g.mb := h.row.ne_map h.map
  have hlen := ok.len; have hlo := ok.lo; have hhi := ok.hi; have hle := ok.le; have hcap := ok.cap
  have hne0 := ok.ne
  refine seq fun K3 hK3 => ?_
  refine reg ?_
  refine s_e (e_box (v := (v4 a)) g2) rfl ?_
  rintro _ w4 ⟨rfl, hb5, hk6⟩
  have ka7 : Kp (fun _ => False) w w4 := (Kp.then0 (Kp.refl _ _) hk6)
  refine s_y (y_assign (v := (.slice none 0 0)) rfl) rfl ?_
  refine s_nil (hK3 _ _ (genC [(0, (Vp g.pb 0)), (3, (Vp w.heap.size 0))] ⟨g1, rfl, trivial⟩ ?_))
  clear hK3; rintro E ⟨g8, g9, -⟩
  refine seq fun K10 hK10 => ?_
  refine reg ?_
  refine s_y (y_move (v := (Vp g.pb 0)) g8) rfl ?_
  refine s_y (y_nil rfl) rfl ?_
  refine s_y (y_fld fo146_0 rfl) rfl ?_
  have hb11 := (hk6.get0 hb0)
  refine s_y (y_load (v := (.slice (some ⟨g.lb, 0, none⟩) g.l.length g.cap)) rfl (rd_sc sc28 (On.now hb11) rfl)) rfl ?_
  have hf12 := (hl0.kp hk6 id)
  refine s_e (e_call ca82 (args := [(.slice (some ⟨g.lb, 0, none⟩) g.l.length g.cap)]) rfl (clone4_spec (by rfl) (by assumption) (by omega) hf12)) rfl ?_
  rintro _ w13 ⟨⟨cb15, cap16, rfl, hge17, hC18⟩, hk14⟩
  have ka19 := (Kp.then0 ka7 hk14)
  have hclcb15 := OwnC.le hC18; have hcmcb15 : cap16 ≤ 9223372036854775807 := OwnC.capmax hC18
  refine s_y (y_assign (v := (.slice (some ⟨cb15, 0, none⟩) g.l.length cap16)) rfl) rfl ?_
  refine s_nil (hK10 _ _ (genC [(3, (Vp w.heap.size 0)), (5, (.slice (some ⟨cb15, 0, none⟩) g.l.length cap16))] ⟨g9, rfl, trivial⟩ ?_))
  clear hK10; rintro E ⟨g20, g21, -⟩
  refine seq fun K22 hK22 => ?_
  refine seq fun K23 hK23 => ?_
  refine reg ?_
  refine s_y (y_move (v := (.slice (some ⟨cb15, 0, none⟩) g.l.length cap16)) g21) rfl ?_
  have hb24 := (hk14.get0 hb5)
  refine s_y (y_load (v := (v4 a)) g20 (rd_agg (vs := [(u8 a.a), (u8 a.b), (u8 a.c), (u8 a.d)]) ag27 (On.now hb24) (by kernel_rfl) rfl)) rfl ?_
  refine s_e (e_call ca104 (args := [(.slice (some ⟨cb15, 0, none⟩) g.l.length cap16), (v4 a)]) rfl (index4_spec a (by rfl) (by omega) (OwnC.elts hC18))) rfl ?_
  rintro _ w25 ⟨⟨_, rfl, ⟨rfl, hx28⟩ | ⟨i27, rfl, hx28, hx29⟩⟩, hk26⟩
  · have ka30 := (Kp.then0 ka19 hk26)
    refine s_y (y_assign (v := (Vi ((-1)))) rfl) rfl ?_
    refine s_nil (hK23 _ _ (genC [(3, (Vp w.heap.size 0)), (5, (.slice (some ⟨cb15, 0, none⟩) g.l.length cap16)), (6, (Vi ((-1))))] ⟨g20, g21, rfl, trivial⟩ ?_))
    clear hK23; rintro E ⟨g31, g32, g33, -⟩
    refine seq fun K34 hK34 => ?_
    refine reg ?_
    refine s_y (y_move (v := (Vi ((-1)))) g33) rfl ?_
    refine s_y (y_gtr rfl rfl) rfl ?_
    refine s_nil (hK34 _ _ (genC [(3, (Vp w.heap.size 0)), (5, (.slice (some ⟨cb15, 0, none⟩) g.l.length cap16)), (6, (Vi ((-1)))), (16, Vf)] ⟨g31, g32, g33, rfl, trivial⟩ ?_))
    clear hK34; rintro E ⟨g35, g36, g37, g38, -⟩
    refine cond_f g38 ?_
    refine skip (hK22 _ _ (genC [(5, (.slice (some ⟨cb15, 0, none⟩) g.l.length cap16))] ⟨g36, trivial⟩ ?_))
    clear hK22; rintro E ⟨g39, -⟩
    refine seq fun K40 hK40 => ?_
    refine reg ?_
    refine s_y (y_move (v := (.slice (some ⟨cb15, 0, none⟩) g.l.length cap16)) g39) rfl ?_
    refine s_y (y_assign (v := (.slice (some ⟨cb15, 0, none⟩) g.l.length cap16)) rfl) rfl ?_
    refine s_nil (hK40 _ _ (genC [(4, (.slice (some ⟨cb15, 0, none⟩) g.l.length cap16))] ⟨rfl, trivial⟩ ?_))
    clear hK40; rintro E ⟨g41, -⟩
    refine ret (hret _ _ [(.slice (some ⟨cb15, 0, none⟩) g.l.length cap16)] ⟨g41, trivial⟩ ?_)
    have hf42 := (hC18.kp hk26 id)
    have eo : ord g.l a = g.l := if_neg hx28
    exact ⟨⟨_, _, _, rfl, by rw [eo], (nl hk6.size hge17), (by rw [eo]; exact (OwnC.elts hf42))⟩, ka30⟩
  · have ka43 := (Kp.then0 ka19 hk26)
    have hili27 := (List.getElem?_eq_some_iff.1 hx28).1
    refine s_y (y_assign (v := (Vi (((i27 : Nat) : Int)))) rfl) rfl ?_
    refine s_nil (hK23 _ _ (genC [(3, (Vp w.heap.size 0)), (5, (.slice (some ⟨cb15, 0, none⟩) g.l.length cap16)), (6, (Vi (((i27 : Nat) : Int))))] ⟨g20, g21, rfl, trivial⟩ ?_))
    clear hK23; rintro E ⟨g44, g45, g46, -⟩
    refine seq fun K47 hK47 => ?_
    refine reg ?_
    refine s_y (y_move (v := (Vi (((i27 : Nat) : Int)))) g46) rfl ?_
    refine s_y (y_gtr rfl rfl) rfl ?_
    refine s_nil (hK47 _ _ (genC [(3, (Vp w.heap.size 0)), (5, (.slice (some ⟨cb15, 0, none⟩) g.l.length cap16)), (6, (Vi (((i27 : Nat) : Int)))), (16, (.bool (decide ((0 : Int) < ((i27 : Nat) : Int)))))] ⟨g44, g45, g46, rfl, trivial⟩ ?_))
    clear hK47; rintro E ⟨g48, g49, g50, g51, -⟩
    refine cond_d g51 (fun c52 => ?_) (fun c52 => ?_)
    · refine regD (· = cb15) (.take 0 (.take 1 (.take 2 (.take 3 (.take 5 (.two 4 (.one 6 (.one 7 (.take 8 .done))) 6 (.one 4 (.one 7 (.take 8 .done))))))))) mixed (by kernel_rfl) fun w53 hh54 hk55 => ?_
      have ka56 := (Kp.then0 ka43 hk55)
      refine o_y rfl (y_move (v := (.slice (some ⟨cb15, 0, none⟩) g.l.length cap16)) g49) ?_
      refine o_y rfl (y_move (v := (Vi (((i27 : Nat) : Int)))) g50) ?_
      refine o_y rfl (y_move (v := (Vi (((i27 : Nat) : Int)))) g50) ?_
      refine o_y rfl (y_add rfl rfl (c := ((i27 : Nat) : Int) + 1) (by omega) rfl) ?_
      refine o_y rfl (y_load (v := (v4 a)) g48 (rd_agg (vs := [(u8 a.a), (u8 a.b), (u8 a.c), (u8 a.d)]) ag27 (On.kp (hk55.get0 (hk26.get0 hb24)) (Nat.ne_of_lt (nt (lt_of_get hb5) hge17))) (by kernel_rfl) rfl)) ?_
      refine o_two ?_ ?_
      · have hf57 := ((hC18.kp hk26 id).kp hk55 id)
        have hil9 := getq_len hx28
        refine c_e rfl (e_call ca122 (args := [(.slice (some ⟨cb15, 0, none⟩) g.l.length cap16), (Vi (((i27 : Nat) : Int))), (Vi (((i27 : Nat) : Int) + 1))]) rfl (delete4_spec (i := i27) rfl hil9 (by omega) hf57)) ?_
        rintro _ w58 ⟨rfl, hC59, hk60⟩
        have ka61 := (Kp.fresh ka56 hk60 fun _ e => nl (nl hk6.size hge17) (Nat.le_of_eq e.symm))
        have ks62 : Kp (· = cb15) w53 w58 := (Kp.trans (Kp.refl _ _) hk60 (fun _ _ e => e))
        refine ⟨ks62, ?_⟩
        refine o_one ?_
        refine c_e rfl (e_buildSlice (cs := #[(u8 a.a), (u8 a.b), (u8 a.c), (u8 a.d)]) (e := 27) (vs := [(0, (v4 a))]) rfl (fun _ => by kernel_rfl)) ?_
        rintro _ w63 ⟨rfl, hb64, hk65⟩
        have ka66 := (Kp.then0 ka61 hk65)
        have ks67 := (Kp.then0 ks62 hk65)
        refine ⟨ks67, ?_⟩
        refine o_one ?_
        have hf68 := (hC59.kp hk65 id)
        have hil8 := getq_len hx28
        refine c_e rfl (e_call ca121 (args := [(.slice (some ⟨cb15, 0, none⟩) (g.l.length - 1) cap16), (Vi 0), (.slice (some ⟨w58.heap.size, 0, none⟩) 1 1)]) rfl (insert4_spec (by rw [List.length_eraseIdx, if_pos hil8]) (by omega) (by omega) (by rw [List.length_eraseIdx, if_pos hil8]; omega) hf68 hb64 (Nat.ne_of_gt (nt (hC59.lt) (Nat.le_refl _))))) ?_
        rintro _ w69 ⟨rfl, hC70, hk71⟩
        have ka72 := (Kp.fresh ka66 hk71 fun _ e => nl (nl hk6.size hge17) (Nat.le_of_eq e.symm))
        have ks73 := (Kp.trans ks67 hk71 (fun _ _ e => e))
        refine ⟨ks73, ?_⟩
        refine o_y rfl (y_assign (v := (.slice (some ⟨cb15, 0, none⟩) ((g.l.length - 1) + 1) cap16)) rfl) ?_
        refine o_done (hK22 _ _ (genC [(5, (.slice (some ⟨cb15, 0, none⟩) ((g.l.length - 1) + 1) cap16))] ⟨rfl, trivial⟩ ?_))
        clear hK22; rintro E ⟨g74, -⟩
        refine seq fun K75 hK75 => ?_
        refine reg ?_
        refine s_y (y_move (v := (.slice (some ⟨cb15, 0, none⟩) ((g.l.length - 1) + 1) cap16)) g74) rfl ?_
        refine s_y (y_assign (v := (.slice (some ⟨cb15, 0, none⟩) ((g.l.length - 1) + 1) cap16)) rfl) rfl ?_
        refine s_nil (hK75 _ _ (genC [(4, (.slice (some ⟨cb15, 0, none⟩) ((g.l.length - 1) + 1) cap16))] ⟨rfl, trivial⟩ ?_))
        clear hK75; rintro E ⟨g76, -⟩
        refine ret (hret _ _ [(.slice (some ⟨cb15, 0, none⟩) ((g.l.length - 1) + 1) cap16)] ⟨g76, trivial⟩ ?_)
        have eo := ord_at hx28 hx29
        have hil7 := getq_len hx28
        exact ⟨⟨_, _, _, rfl, by rw [eo, List.length_cons, List.length_eraseIdx, if_pos hil7], (nl hk6.size hge17), (by rw [eo]; exact (OwnC.elts hC70))⟩, ka72⟩
      · refine c_e rfl (e_buildSlice (cs := #[(u8 a.a), (u8 a.b), (u8 a.c), (u8 a.d)]) (e := 27) (vs := [(0, (v4 a))]) rfl (fun _ => by kernel_rfl)) ?_
        rintro _ w77 ⟨rfl, hb78, hk79⟩
        have ka80 := (Kp.then0 ka56 hk79)
        have ks81 : Kp (· = cb15) w53 w77 := (Kp.then0 (Kp.refl _ _) hk79)
        refine ⟨ks81, ?_⟩
        refine o_one ?_
        have hf82 := (((hC18.kp hk26 id).kp hk55 id).kp hk79 id)
        have hil9 := getq_len hx28
        refine c_e rfl (e_call ca122 (args := [(.slice (some ⟨cb15, 0, none⟩) g.l.length cap16), (Vi (((i27 : Nat) : Int))), (Vi (((i27 : Nat) : Int) + 1))]) rfl (delete4_spec (i := i27) rfl hil9 (by omega) hf82)) ?_
        rintro _ w83 ⟨rfl, hC84, hk85⟩
        have ka86 := (Kp.fresh ka80 hk85 fun _ e => nl (nl hk6.size hge17) (Nat.le_of_eq e.symm))
        have ks87 := (Kp.trans ks81 hk85 (fun _ _ e => e))
        refine ⟨ks87, ?_⟩
        refine o_one ?_
        have hb88 := (hk85.get hb78 (Nat.ne_of_gt (nt (nt (hC18.lt) (nl hk26.size hk55.size)) (Nat.le_refl _))))
        have hil8 := getq_len hx28
        refine c_e rfl (e_call ca121 (args := [(.slice (some ⟨cb15, 0, none⟩) (g.l.length - 1) cap16), (Vi 0), (.slice (some ⟨w53.heap.size, 0, none⟩) 1 1)]) rfl (insert4_spec (by rw [List.length_eraseIdx, if_pos hil8]) (by omega) (by omega) (by rw [List.length_eraseIdx, if_pos hil8]; omega) hC84 hb88 (Nat.ne_of_gt (nt (nt (hC18.lt) (nl hk26.size hk55.size)) (Nat.le_refl _))))) ?_
        rintro _ w89 ⟨rfl, hC90, hk91⟩
        have ka92 := (Kp.fresh ka86 hk91 fun _ e => nl (nl hk6.size hge17) (Nat.le_of_eq e.symm))
        have ks93 := (Kp.trans ks87 hk91 (fun _ _ e => e))
        refine ⟨ks93, ?_⟩
        refine o_y rfl (y_assign (v := (.slice (some ⟨cb15, 0, none⟩) ((g.l.length - 1) + 1) cap16)) rfl) ?_
        refine o_done (hK22 _ _ (genC [(5, (.slice (some ⟨cb15, 0, none⟩) ((g.l.length - 1) + 1) cap16))] ⟨rfl, trivial⟩ ?_))
        clear hK22; rintro E ⟨g94, -⟩
        refine seq fun K95 hK95 => ?_
        refine reg ?_
        refine s_y (y_move (v := (.slice (some ⟨cb15, 0, none⟩) ((g.l.length - 1) + 1) cap16)) g94) rfl ?_
        refine s_y (y_assign (v := (.slice (some ⟨cb15, 0, none⟩) ((g.l.length - 1) + 1) cap16)) rfl) rfl ?_
        refine s_nil (hK95 _ _ (genC [(4, (.slice (some ⟨cb15, 0, none⟩) ((g.l.length - 1) + 1) cap16))] ⟨rfl, trivial⟩ ?_))
        clear hK95; rintro E ⟨g96, -⟩
        refine ret (hret _ _ [(.slice (some ⟨cb15, 0, none⟩) ((g.l.length - 1) + 1) cap16)] ⟨g96, trivial⟩ ?_)
        have eo := ord_at hx28 hx29
        have hil7 := getq_len hx28
        exact ⟨⟨_, _, _, rfl, by rw [eo, List.length_cons, List.length_eraseIdx, if_pos hil7], (nl hk6.size hge17), (by rw [eo]; exact (OwnC.elts hC90))⟩, ka92⟩
    · refine skip (hK22 _ _ (genC [(5, (.slice (some ⟨cb15, 0, none⟩) g.l.length cap16))] ⟨g49, trivial⟩ ?_))
      clear hK22; rintro E ⟨g97, -⟩
      refine seq fun K98 hK98 => ?_
      refine reg ?_
      refine s_y (y_move (v := (.slice (some ⟨cb15, 0, none⟩) g.l.length cap16)) g97) rfl ?_
      refine s_y (y_assign (v := (.slice (some ⟨cb15, 0, none⟩) g.l.length cap16)) rfl) rfl ?_
      refine s_nil (hK98 _ _ (genC [(4, (.slice (some ⟨cb15, 0, none⟩) g.l.length cap16))] ⟨rfl, trivial⟩ ?_))
      clear hK98; rintro E ⟨g99, -⟩
      refine ret (hret _ _ [(.slice (some ⟨cb15, 0, none⟩) g.l.length cap16)] ⟨g99, trivial⟩ ?_)
      have hf100 := (hC18.kp hk26 id)
      obtain rfl : i27 = 0 := by omega
      have eo : ord g.l a = g.l := ord_zero hx28
      exact ⟨⟨_, _, _, rfl, by rw [eo], (nl hk6.size hge17), (by rw [eo]; exact (OwnC.elts hf100))⟩, ka43⟩

end Go.Proofs.YtdcnblafepgheaaDoor
