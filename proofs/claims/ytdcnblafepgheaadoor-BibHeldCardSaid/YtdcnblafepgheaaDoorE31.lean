/-
  Written by a program (wip/walks).
-/
import Derived.Test.YtdcnblafepgheaaDoorE30
namespace Go.Proofs.YtdcnblafepgheaaDoor
open Go Go.V
set_option maxRecDepth 100000
def hD (p : Int) (t : T6) (u : T4) (m i : Nat) : Ab := if i < m then hS 1 p t u false ((m - i : Nat) : Int) else hE 1
theorem hD_lt {p : Int} {t : T6} {u : T4} {m i : Nat} (h : i < m) : hD p t u m i = hS 1 p t u false ((m - i : Nat) : Int) := if_pos h
theorem hD_ge {p : Int} {t : T6} {u : T4} {m i : Nat} (h : ¬ i < m) : hD p t u m i = hE 1 := if_neg h
theorem add_h0 (G : Gp) (p : Int) (t : T6) : (∃ r : Int, r ≠ 0 ∧ addA G (hE 0) p t = (zeroB, r, hE 0)) ∨ ∃ u, 0 ≤ kindI p ∧ addA G (hE 0) p t = (⟨1, p, t, u, false, 0⟩, 0, hS 1 p t u false 0) := add_hE G 0 p t
theorem bind_h0 (G : Gp) (p : Int) (t : T6) (u : T4) : (∃ r : Int, r ≠ 0 ∧ bindA G (hE 0) p t u = (zeroB, r, hE 0)) ∨ (0 ≤ kindI p ∧ bindA G (hE 0) p t u = (⟨1, p, t, u, true, 0⟩, 0, hS 1 p t u true 0)) := bind_hE G 0 p t u
theorem bind_h1 (G : Gp) (p : Int) (t : T6) (u : T4) : (∃ r : Int, r ≠ 0 ∧ bindA G (hE 1) p t u = (zeroB, r, hE 1)) ∨ (0 ≤ kindI p ∧ bindA G (hE 1) p t u = (⟨2, p, t, u, true, 0⟩, 0, hS 2 p t u true 0)) := bind_hE G 1 p t u
theorem tmod20 {a : Int} (h : 0 ≤ a) : ∃ m : Nat, a.tmod 20 = (m : Int) ∧ m < 20 := by
  refine ⟨(a.tmod 20).toNat, ?_, ?_⟩ <;> rw [Int.tmod_eq_emod_of_nonneg h] <;> omega
theorem Tab.state {G : Gp} {g : BibG} {c : Int} {B : Nat} {a a' : Ab} {st : BibS} {w : World} (h : Tab G g c B a st w) (e : a' = a) : Tab G g c B a' st w := e ▸ h
theorem bibHeld_nil (low high max n8 p x tt : Int) (hm : -9223372036854775808 ≤ max ∧ max ≤ 9223372036854775807) (_h80 : 0 ≤ n8 ∧ n8 ≤ 255) (_hp : -9223372036854775808 ≤ p ∧ p ≤ 9223372036854775807) (_hx : -9223372036854775808 ≤ x ∧ x ≤ 9223372036854775807) (_htt : -9223372036854775808 ≤ tt ∧ tt ≤ 9223372036854775807) {p0 : Option Addr} {c0 : Nat} {w : World} (hT : Tb w) : Rets Tryd.prog 4 #[(.slice p0 0 c0), (.int .i64 low), (.int .i64 high), (.int .i64 max), (.int .u8 n8), (.int .i64 p), (.int .i64 x), (.int .i64 tt)] w fun v w' => v = .bool true ∧ K0 w w' := by
  refine enter Tryd.func4 rfl Tryd.ntmps4 rfl fun Q hret hend E hE => ?_
  have g1 : E 0 = (.slice p0 0 c0) := hE 0
  have g2 : E 1 = (Vi low) := hE 1
  have g3 : E 2 = (Vi high) := hE 2
  have g4 : E 3 = (Vi max) := hE 3
  have g5 : E 4 = (.int .u8 n8) := hE 4
  have g6 : E 5 = (Vi p) := hE 5
  have g7 : E 6 = (Vi x) := hE 6
  have g8 : E 7 = (Vi tt) := hE 7
  clear hE
  refine seq fun K9 hK9 => ?_
  refine reg ?_
  refine s_y (y_assign (v := Vf) rfl) rfl ?_
  refine s_nil (hK9 _ _ (genC [(0, (.slice p0 0 c0)), (1, (Vi low)), (2, (Vi high)), (3, (Vi max)), (4, (.int .u8 n8)), (5, (Vi p)), (6, (Vi x)), (7, (Vi tt))] ⟨g1, g2, g3, g4, g5, g6, g7, g8, trivial⟩ ?_))
  clear hK9; rintro E ⟨g10, g11, g12, g13, g14, g15, g16, g17, -⟩
  refine seq fun K18 hK18 => ?_
  refine seq fun K19 hK19 => ?_
  refine reg ?_
  refine s_y (y_move (v := (.slice p0 0 c0)) g10) rfl ?_
  refine s_y (y_move (v := (Vi low)) g11) rfl ?_
  refine s_y (y_move (v := (Vi high)) g12) rfl ?_
  refine s_e (e_call ca23 (args := [(.slice p0 0 c0), (Vi low), (Vi high), (.slice none 0 0)]) rfl (great_spec (p := p0) (c := c0) (p2 := none) (m := 0) (c2 := 0))) rfl ?_
  rintro _ w20 ⟨⟨gb22, rfl, hg23⟩, hk21⟩
  have ka24 : Kp (fun _ => False) w w20 := (Kp.then0 (Kp.refl _ _) hk21)
  refine s_nil (hK19 _ _ (genC [(0, (.slice p0 0 c0)), (1, (Vi low)), (2, (Vi high)), (3, (Vi max)), (4, (.int .u8 n8)), (5, (Vi p)), (6, (Vi x)), (7, (Vi tt)), (42, (.bool (gb22)))] ⟨g10, g11, g12, g13, g14, g15, g16, g17, rfl, trivial⟩ ?_))
  clear hK19; rintro E ⟨g25, g26, g27, g28, g29, g30, g31, g32, g33, -⟩
  refine cond_b g33 (fun c34 => ?_) (fun c34 => ?_)
  · refine seq fun K35 hK35 => ?_
    refine reg ?_
    have hf36 := (hT.kp hk21 id)
    refine s_e (e_call ca22 (args := []) rfl (wakes_spec hf36)) rfl ?_
    rintro _ w37 ⟨rfl, hk38⟩
    have ka39 := (Kp.then0 ka24 hk38)
    refine s_y (y_assign (v := Vt) rfl) rfl ?_
    refine s_nil (hK35 _ _ (genC [(16, Vt)] ⟨rfl, trivial⟩ ?_))
    clear hK35; rintro E ⟨g40, -⟩
    refine ret (hret _ _ [Vt] ⟨g40, trivial⟩ ?_)
    exact ⟨rfl, ka39⟩
  · refine skip (hK18 _ _ (genC [(0, (.slice p0 0 c0)), (1, (Vi low)), (2, (Vi high)), (3, (Vi max)), (4, (.int .u8 n8)), (5, (Vi p)), (6, (Vi x)), (7, (Vi tt))] ⟨g25, g26, g27, g28, g29, g30, g31, g32, trivial⟩ ?_))
    clear hK18; rintro E ⟨g41, g42, g43, g44, g45, g46, g47, g48, -⟩
    refine seq fun K49 hK49 => ?_
    refine reg ?_
    refine s_y (y_move (v := (.slice p0 0 c0)) g41) rfl ?_
    refine s_y (y_move (v := (Vi low)) g42) rfl ?_
    refine s_y (y_move (v := (Vi high)) g43) rfl ?_
    refine s_y (y_move (v := (Vi max)) g44) rfl ?_
    refine s_e (e_call ca12 (args := [(.slice p0 0 c0), (Vi low), (Vi high), (Vi max)]) rfl (bibnew_e hm)) rfl ?_
    rintro _ w50 ⟨rfl, hk51⟩
    have ka52 := (Kp.then0 ka24 hk51)
    refine s_y (y_move (v := (.tuple #[(.pointer none), (Vi 1)])) rfl) rfl ?_
    refine s_y (y_ext rfl (v := (.pointer none)) rfl) rfl ?_
    refine s_y (y_ext rfl (v := (Vi 1)) rfl) rfl ?_
    refine s_y (y_assign (v := (.pointer none)) rfl) rfl ?_
    refine s_y (y_assign (v := (Vi 1)) rfl) rfl ?_
    refine s_nil (hK49 _ _ (genC [(4, (.int .u8 n8)), (5, (Vi p)), (6, (Vi x)), (7, (Vi tt)), (17, (.pointer none)), (18, (Vi 1))] ⟨g45, g46, g47, g48, rfl, rfl, trivial⟩ ?_))
    clear hK49; rintro E ⟨g53, g54, g55, g56, g57, g58, -⟩
    refine seq fun K59 hK59 => ?_
    refine seq fun K60 hK60 => ?_
    refine reg ?_
    refine s_y (y_move (v := (Vi 1)) g58) rfl ?_
    refine s_y (y_neq rfl rfl) rfl ?_
    refine s_nil (hK60 _ _ (genC [(4, (.int .u8 n8)), (5, (Vi p)), (6, (Vi x)), (7, (Vi tt)), (17, (.pointer none)), (53, Vt)] ⟨g53, g54, g55, g56, g57, rfl, trivial⟩ ?_))
    clear hK60; rintro E ⟨g61, g62, g63, g64, g65, g66, -⟩
    refine cond_t g66 ?_
    refine seq fun K67 hK67 => ?_
    refine reg ?_
    refine s_y (y_move (v := (.pointer none)) g65) rfl ?_
    refine s_y (y_peq0 Tryd.underlying22 rfl rfl) rfl ?_
    refine s_y (y_move (v := Vt) rfl) rfl ?_
    have hf68 := ((hT.kp hk21 id).kp hk51 id)
    refine s_ge (.yes rfl rfl) (e_call ca22 (args := []) rfl (wakes_spec hf68)) rfl ?_
    rintro _ w69 ⟨rfl, hk70⟩
    have ka71 := (Kp.then0 ka52 hk70)
    refine s_y (y_pick_t rfl (v := Vt) rfl) rfl ?_
    refine s_y (y_assign (v := Vt) rfl) rfl ?_
    refine s_nil (hK67 _ _ (genC [(16, Vt)] ⟨rfl, trivial⟩ ?_))
    clear hK67; rintro E ⟨g72, -⟩
    refine ret (hret _ _ [Vt] ⟨g72, trivial⟩ ?_)
    exact ⟨rfl, ka71⟩

theorem bibHeld_spec (low high max n8 p x tt : Int) (hm : -9223372036854775808 ≤ max ∧ max ≤ 9223372036854775807) (h80 : 0 ≤ n8 ∧ n8 ≤ 255) (hp : -9223372036854775808 ≤ p ∧ p ≤ 9223372036854775807) (hx : -9223372036854775808 ≤ x ∧ x ≤ 9223372036854775807) (htt : -9223372036854775808 ≤ tt ∧ tt ≤ 9223372036854775807) {lb lo ln lc : Nat} {l : List V4} {w : World} (hn : ln = l.length) (hnc : ln ≤ lc) (hel : Elts V4.cs 4 w lb lo l) (hT : Tb w) : Rets Tryd.prog 4 #[(.slice (some ⟨lb, lo, none⟩) ln lc), (.int .i64 low), (.int .i64 high), (.int .i64 max), (.int .u8 n8), (.int .i64 p), (.int .i64 x), (.int .i64 tt)] w fun v w' => v = .bool true ∧ K0 w w' := by
  refine enter Tryd.func4 rfl Tryd.ntmps4 rfl fun Q hret hend E hE => ?_
  have g1 : E 0 = (.slice (some ⟨lb, lo, none⟩) ln lc) := hE 0
  have g2 : E 1 = (Vi low) := hE 1
  have g3 : E 2 = (Vi high) := hE 2
  have g4 : E 3 = (Vi max) := hE 3
  have g5 : E 4 = (.int .u8 n8) := hE 4
  have g6 : E 5 = (Vi p) := hE 5
  have g7 : E 6 = (Vi x) := hE 6
  have g8 : E 7 = (Vi tt) := hE 7
  clear hE
  obtain ⟨m9, hm9, hm8⟩ := tmod20 h80.1
  refine seq fun K9 hK9 => ?_
  refine reg ?_
  refine s_y (y_assign (v := Vf) rfl) rfl ?_
  refine s_nil (hK9 _ _ (genC [(0, (.slice (some ⟨lb, lo, none⟩) ln lc)), (1, (Vi low)), (2, (Vi high)), (3, (Vi max)), (4, (.int .u8 n8)), (5, (Vi p)), (6, (Vi x)), (7, (Vi tt))] ⟨g1, g2, g3, g4, g5, g6, g7, g8, trivial⟩ ?_))
  clear hK9; rintro E ⟨g10, g11, g12, g13, g14, g15, g16, g17, -⟩
  refine seq fun K18 hK18 => ?_
  refine seq fun K19 hK19 => ?_
  refine reg ?_
  refine s_y (y_move (v := (.slice (some ⟨lb, lo, none⟩) ln lc)) g10) rfl ?_
  refine s_y (y_move (v := (Vi low)) g11) rfl ?_
  refine s_y (y_move (v := (Vi high)) g12) rfl ?_
  refine s_e (e_call ca23 (args := [(.slice (some ⟨lb, lo, none⟩) ln lc), (Vi low), (Vi high), (.slice none 0 0)]) rfl (great_spec (p := (some ⟨lb, lo, none⟩)) (c := lc) (p2 := none) (m := 0) (c2 := 0))) rfl ?_
  rintro _ w20 ⟨⟨gb22, rfl, hg23⟩, hk21⟩
  have ka24 : Kp (fun _ => False) w w20 := (Kp.then0 (Kp.refl _ _) hk21)
  refine s_nil (hK19 _ _ (genC [(0, (.slice (some ⟨lb, lo, none⟩) ln lc)), (1, (Vi low)), (2, (Vi high)), (3, (Vi max)), (4, (.int .u8 n8)), (5, (Vi p)), (6, (Vi x)), (7, (Vi tt)), (42, (.bool (gb22)))] ⟨g10, g11, g12, g13, g14, g15, g16, g17, rfl, trivial⟩ ?_))
  clear hK19; rintro E ⟨g25, g26, g27, g28, g29, g30, g31, g32, g33, -⟩
  refine cond_b g33 (fun c34 => ?_) (fun c34 => ?_)
  · refine seq fun K35 hK35 => ?_
    refine reg ?_
    have hf36 := (hT.kp hk21 id)
    refine s_e (e_call ca22 (args := []) rfl (wakes_spec hf36)) rfl ?_
    rintro _ w37 ⟨rfl, hk38⟩
    have ka39 := (Kp.then0 ka24 hk38)
    refine s_y (y_assign (v := Vt) rfl) rfl ?_
    refine s_nil (hK35 _ _ (genC [(16, Vt)] ⟨rfl, trivial⟩ ?_))
    clear hK35; rintro E ⟨g40, -⟩
    refine ret (hret _ _ [Vt] ⟨g40, trivial⟩ ?_)
    exact ⟨rfl, ka39⟩
  · refine skip (hK18 _ _ (genC [(0, (.slice (some ⟨lb, lo, none⟩) ln lc)), (1, (Vi low)), (2, (Vi high)), (3, (Vi max)), (4, (.int .u8 n8)), (5, (Vi p)), (6, (Vi x)), (7, (Vi tt))] ⟨g25, g26, g27, g28, g29, g30, g31, g32, trivial⟩ ?_))
    clear hK18; rintro E ⟨g41, g42, g43, g44, g45, g46, g47, g48, -⟩
    refine seq fun K49 hK49 => ?_
    refine reg ?_
    refine s_y (y_move (v := (.slice (some ⟨lb, lo, none⟩) ln lc)) g41) rfl ?_
    refine s_y (y_move (v := (Vi low)) g42) rfl ?_
    refine s_y (y_move (v := (Vi high)) g43) rfl ?_
    refine s_y (y_move (v := (Vi max)) g44) rfl ?_
    have hln9 := (hg23 c34).1
    have hf50 := (hel.kp hk21 id)
    have hf51 := (hT.kp hk21 id)
    refine s_e (e_call ca12 (args := [(.slice (some ⟨lb, lo, none⟩) ln lc), (Vi low), (Vi high), (Vi max)]) rfl (bibnew_spec hn hnc (by omega) hf50 hm hf51)) rfl ?_
    rintro _ w52 ⟨⟨hx54, rfl⟩ | ⟨hx54, g, rfl, hn55⟩, hk53⟩
    · have ka56 := (Kp.then0 ka24 hk53)
      refine s_y (y_move (v := (.tuple #[(.pointer none), (Vi 1)])) rfl) rfl ?_
      refine s_y (y_ext rfl (v := (.pointer none)) rfl) rfl ?_
      refine s_y (y_ext rfl (v := (Vi 1)) rfl) rfl ?_
      refine s_y (y_assign (v := (.pointer none)) rfl) rfl ?_
      refine s_y (y_assign (v := (Vi 1)) rfl) rfl ?_
      refine s_nil (hK49 _ _ (genC [(4, (.int .u8 n8)), (5, (Vi p)), (6, (Vi x)), (7, (Vi tt)), (17, (.pointer none)), (18, (Vi 1))] ⟨g45, g46, g47, g48, rfl, rfl, trivial⟩ ?_))
      clear hK49; rintro E ⟨g57, g58, g59, g60, g61, g62, -⟩
      refine seq fun K63 hK63 => ?_
      refine seq fun K64 hK64 => ?_
      refine reg ?_
      refine s_y (y_move (v := (Vi 1)) g62) rfl ?_
      refine s_y (y_neq rfl rfl) rfl ?_
      refine s_nil (hK64 _ _ (genC [(4, (.int .u8 n8)), (5, (Vi p)), (6, (Vi x)), (7, (Vi tt)), (17, (.pointer none)), (53, Vt)] ⟨g57, g58, g59, g60, g61, rfl, trivial⟩ ?_))
      clear hK64; rintro E ⟨g65, g66, g67, g68, g69, g70, -⟩
      refine cond_t g70 ?_
      refine seq fun K71 hK71 => ?_
      refine reg ?_
      refine s_y (y_move (v := (.pointer none)) g69) rfl ?_
      refine s_y (y_peq0 Tryd.underlying22 rfl rfl) rfl ?_
      refine s_y (y_move (v := Vt) rfl) rfl ?_
      have hf72 := (hf51.kp hk53 id)
      refine s_ge (.yes rfl rfl) (e_call ca22 (args := []) rfl (wakes_spec hf72)) rfl ?_
      rintro _ w73 ⟨rfl, hk74⟩
      have ka75 := (Kp.then0 ka56 hk74)
      refine s_y (y_pick_t rfl (v := Vt) rfl) rfl ?_
      refine s_y (y_assign (v := Vt) rfl) rfl ?_
      refine s_nil (hK71 _ _ (genC [(16, Vt)] ⟨rfl, trivial⟩ ?_))
      clear hK71; rintro E ⟨g76, -⟩
      refine ret (hret _ _ [Vt] ⟨g76, trivial⟩ ?_)
      exact ⟨rfl, ka75⟩
    · have ht9 := Tab.state (NewBib.tab hn55 (by omega)) ab0_hE.symm; have hmx9 := hx54.1
      have ka77 := (Kp.then0 ka24 hk53)
      refine s_y (y_move (v := (.tuple #[(Vp g.tb 0), (Vi 0)])) rfl) rfl ?_
      refine s_y (y_ext rfl (v := (Vp g.tb 0)) rfl) rfl ?_
      refine s_y (y_ext rfl (v := (Vi 0)) rfl) rfl ?_
      refine s_y (y_assign (v := (Vp g.tb 0)) rfl) rfl ?_
      refine s_y (y_assign (v := (Vi 0)) rfl) rfl ?_
      refine s_nil (hK49 _ _ (genC [(4, (.int .u8 n8)), (5, (Vi p)), (6, (Vi x)), (7, (Vi tt)), (17, (Vp g.tb 0)), (18, (Vi 0))] ⟨g45, g46, g47, g48, rfl, rfl, trivial⟩ ?_))
      clear hK49; rintro E ⟨g78, g79, g80, g81, g82, g83, -⟩
      refine seq fun K84 hK84 => ?_
      refine seq fun K85 hK85 => ?_
      refine reg ?_
      refine s_y (y_move (v := (Vi 0)) g83) rfl ?_
      refine s_y (y_neq rfl rfl) rfl ?_
      refine s_nil (hK85 _ _ (genC [(4, (.int .u8 n8)), (5, (Vi p)), (6, (Vi x)), (7, (Vi tt)), (17, (Vp g.tb 0)), (53, Vf)] ⟨g78, g79, g80, g81, g82, rfl, trivial⟩ ?_))
      clear hK85; rintro E ⟨g86, g87, g88, g89, g90, g91, -⟩
      refine cond_f g91 ?_
      refine skip (hK84 _ _ (genC [(4, (.int .u8 n8)), (5, (Vi p)), (6, (Vi x)), (7, (Vi tt)), (17, (Vp g.tb 0))] ⟨g86, g87, g88, g89, g90, trivial⟩ ?_))
      clear hK84; rintro E ⟨g92, g93, g94, g95, g96, -⟩
      refine seq fun K97 hK97 => ?_
      refine reg ?_
      refine s_y (y_move (v := (.int .u8 n8)) g92) rfl ?_
      refine s_y (y_remw rfl rfl (by decide)) rfl ?_
      refine s_y (y_conv (m := ((m9 : Nat) : Int)) Tryd.underlying3 ⟨_, Tryd.underlying5⟩ rfl (by rw [hm9]; exact wrap_i64 (by omega))) rfl ?_
      refine s_y (y_add rfl rfl (c := 1 + ((m9 : Nat) : Int)) (by omega) rfl) rfl ?_
      refine s_y (y_assign (v := (Vi (1 + ((m9 : Nat) : Int)))) rfl) rfl ?_
      refine s_nil (hK97 _ _ (genC [(5, (Vi p)), (6, (Vi x)), (7, (Vi tt)), (17, (Vp g.tb 0)), (19, (Vi (1 + ((m9 : Nat) : Int))))] ⟨g93, g94, g95, g96, rfl, trivial⟩ ?_))
      clear hK97; rintro E ⟨g98, g99, g100, g101, g102, -⟩
      refine seq fun K103 hK103 => ?_
      refine reg ?_
      refine s_y (y_move (v := (Vp g.tb 0)) g101) rfl ?_
      refine s_y (y_move (v := (Vi p)) g98) rfl ?_
      refine s_e (e_call ca21 (args := [(Vp g.tb 0), (Vi p)]) rfl (free_x ht9 (by show max ≤ 65536; omega) p)) rfl ?_
      rintro _ w104 ⟨rfl, hk105⟩
      have ka106 := (Kp.then0 ka77 hk105)
      refine s_y (y_assign (v := (Vi (freeA (⟨l, low, high, max, g.first⟩ : Gp) (hE 0) p))) rfl) rfl ?_
      refine s_nil (hK103 _ _ (genC [(5, (Vi p)), (6, (Vi x)), (7, (Vi tt)), (17, (Vp g.tb 0)), (19, (Vi (1 + ((m9 : Nat) : Int)))), (20, (Vi (freeA (⟨l, low, high, max, g.first⟩ : Gp) (hE 0) p)))] ⟨g98, g99, g100, g101, g102, rfl, trivial⟩ ?_))
      clear hK103; rintro E ⟨g107, g108, g109, g110, g111, g112, -⟩
      refine seq fun K113 hK113 => ?_
      refine reg ?_
      refine s_y (y_move (v := (Vp g.tb 0)) g110) rfl ?_
      refine s_y (y_move (v := (Vi p)) g107) rfl ?_
      refine s_y (y_move (v := (Vi x)) g108) rfl ?_
      refine s_e (e_call ca14 (args := [(.int .u8 1), (Vi x)]) rfl (inT_spec 1 x _)) rfl ?_
      rintro _ w114 ⟨rfl, hk115⟩
      have ka116 := (Kp.then0 ka106 hk115)
      have hf117 := (Tab.k0 (Tab.k0 ht9 hk105) hk115)
      refine s_e (e_call ca13 (args := [(Vp g.tb 0), (Vi p), (t6 (inT 1 x))]) rfl (add_x hf117 ⟨by omega, by omega⟩ p hp (inT 1 x) hx)) rfl ?_
      rintro v118 w119 ⟨s120, hv121, hn122⟩; rcases add_h0 (⟨l, low, high, max, g.first⟩ : Gp) p (inT 1 x) with ⟨r123, hr124, hA125⟩ | ⟨u9, hk9, hA126⟩
      · rw [hA125] at hv121 hn122; subst hv121
        have ka127 := (Kp.fresh ka116 (Nx.kp hn122) fun _ e => nl hk21.size (Tab.ge ht9 _ e))
        refine s_y (y_move (v := (.tuple #[(bv zeroB), (Vi r123)])) rfl) rfl ?_
        refine s_y (y_ext rfl (v := (bv zeroB)) rfl) rfl ?_
        refine s_y (y_ext rfl (v := (Vi r123)) rfl) rfl ?_
        refine s_e (e_alloc ze36) rfl ?_
        rintro _ w128 ⟨rfl, hb129, hk130⟩
        have ka131 := (Kp.then0 ka127 hk130)
        refine s_e0 (e_storeV (cs' := zeroB.cs.toArray) zeroB.cs rfl (v := (bv zeroB)) rfl rfl sz36 hb129 rfl rfl rfl) ?_
        rintro _ w132 ⟨hb133, hk134⟩
        have hz136 := (nl (nl (nl (nl hk21.size hk53.size) hk105.size) hk115.size) (Nx.kp hn122).size)
        have ka135 := (Kp.fresh ka131 hk134 fun _ e => nl (nl hz136 (Nat.le_refl _)) (Nat.le_of_eq e.symm))
        refine s_y (y_assign (v := (Vi r123)) rfl) rfl ?_
        refine s_nil (hK113 _ _ (genC [(5, (Vi p)), (6, (Vi x)), (7, (Vi tt)), (17, (Vp g.tb 0)), (19, (Vi (1 + ((m9 : Nat) : Int)))), (20, (Vi (freeA (⟨l, low, high, max, g.first⟩ : Gp) (hE 0) p))), (21, (Vp w119.heap.size 0)), (22, (Vi r123))] ⟨g107, g108, g109, g110, g111, g112, rfl, rfl, trivial⟩ ?_))
        clear hK113; rintro E ⟨g137, g138, g139, g140, g141, g142, g143, g144, -⟩
        refine seq fun K145 hK145 => ?_
        refine seq fun K146 hK146 => ?_
        refine reg ?_
        refine s_y (y_move (v := (Vi r123)) g144) rfl ?_
        refine s_y (y_eql rfl rfl) rfl ?_
        refine s_nil (hK146 _ _ (genC [(5, (Vi p)), (6, (Vi x)), (7, (Vi tt)), (17, (Vp g.tb 0)), (19, (Vi (1 + ((m9 : Nat) : Int)))), (20, (Vi (freeA (⟨l, low, high, max, g.first⟩ : Gp) (hE 0) p))), (21, (Vp w119.heap.size 0)), (75, (.bool (decide ((r123 : Int) = 0))))] ⟨g137, g138, g139, g140, g141, g142, g143, rfl, trivial⟩ ?_))
        clear hK146; rintro E ⟨g147, g148, g149, g150, g151, g152, g153, g154, -⟩
        refine cond_d g154 (fun c155 => ?_) (fun c155 => ?_)
        · exact absurd c155 hr124
        · refine skip (hK145 _ _ (genC [(5, (Vi p)), (6, (Vi x)), (7, (Vi tt)), (17, (Vp g.tb 0)), (20, (Vi (freeA (⟨l, low, high, max, g.first⟩ : Gp) (hE 0) p)))] ⟨g147, g148, g149, g150, g152, trivial⟩ ?_))
          clear hK145; rintro E ⟨g156, g157, g158, g159, g160, -⟩
          refine seq fun K161 hK161 => ?_
          refine reg ?_
          refine s_y (y_move (v := (Vp g.tb 0)) g159) rfl ?_
          refine s_y (y_move (v := (Vi p)) g156) rfl ?_
          refine s_y (y_move (v := (Vi x)) g157) rfl ?_
          refine s_e (e_call ca14 (args := [(.int .u8 1), (Vi x)]) rfl (inT_spec 1 x _)) rfl ?_
          rintro _ w162 ⟨rfl, hk163⟩
          have ka164 := (Kp.then0 ka135 hk163)
          refine s_y (y_move (v := (Vi tt)) g158) rfl ?_
          refine s_e (e_call ca15 (args := [(.int .u8 1), (Vi tt)]) rfl (outT_spec 1 tt _)) rfl ?_
          rintro _ w165 ⟨rfl, hk166⟩
          have ka167 := (Kp.then0 ka164 hk166)
          have hni168 : w119.heap.size ∉ bfp g s120 := (fun e => Nat.lt_irrefl _ (nt (Tab.lt (Nx.tab hn122) _ e) (nl (Nat.le_refl _) (Nat.le_refl _))))
          have hz169 := (nl (nl (nl hk53.size hk105.size) hk115.size) (Nx.kp hn122).size)
          have hf170 := (Tab.k0 (Tab.k0 (Tab.kp (Tab.k0 (Nx.tab hn122) hk130) hk134 (fun b hb => (fun e => hni168 (e ▸ hb))) (Nat.ne_of_lt (nt (nt (hf51.lt) hz169) (Nat.le_refl _)))) hk163) hk166)
          refine s_e (e_call ca19 (args := [(Vp g.tb 0), (Vi p), (t6 (inT 1 x)), (t4 (outT 1 tt))]) rfl (bind_x hf170 ⟨by omega, by omega⟩ p (inT 1 x) (outT 1 tt) hx htt)) rfl ?_
          rintro v171 w172 ⟨s173, hv174, hn175⟩; rcases bind_h0 (⟨l, low, high, max, g.first⟩ : Gp) p (inT 1 x) (outT 1 tt) with ⟨r176, hr177, hA178⟩ | ⟨hkb9, hA179⟩
          · rw [hA178] at hv174 hn175; subst hv174
            have ka180 := (Kp.fresh ka167 (Nx.kp hn175) fun _ e => nl hk21.size (Tab.ge (Nx.tab hn122) _ e))
            refine s_y (y_move (v := (.tuple #[(bv zeroB), (Vi r176)])) rfl) rfl ?_
            refine s_y (y_ext rfl (v := (bv zeroB)) rfl) rfl ?_
            refine s_y (y_ext rfl (v := (Vi r176)) rfl) rfl ?_
            refine s_e (e_alloc ze36) rfl ?_
            rintro _ w181 ⟨rfl, hb182, hk183⟩
            have ka184 := (Kp.then0 ka180 hk183)
            refine s_e0 (e_storeV (cs' := zeroB.cs.toArray) zeroB.cs rfl (v := (bv zeroB)) rfl rfl sz36 hb182 rfl rfl rfl) ?_
            rintro _ w185 ⟨hb186, hk187⟩
            have hz189 := (nl (nl (nl (nl (nl hz136 hk130.size) hk134.size) hk163.size) hk166.size) (Nx.kp hn175).size)
            have ka188 := (Kp.fresh ka184 hk187 fun _ e => nl (nl hz189 (Nat.le_refl _)) (Nat.le_of_eq e.symm))
            refine s_y (y_assign (v := (Vi r176)) rfl) rfl ?_
            refine s_nil (hK161 _ _ (genC [(5, (Vi p)), (6, (Vi x)), (17, (Vp g.tb 0)), (20, (Vi (freeA (⟨l, low, high, max, g.first⟩ : Gp) (hE 0) p))), (31, (Vp w172.heap.size 0)), (32, (Vi r176))] ⟨g156, g157, g159, g160, rfl, rfl, trivial⟩ ?_))
            clear hK161; rintro E ⟨g190, g191, g192, g193, g194, g195, -⟩
            refine seq fun K196 hK196 => ?_
            refine seq fun K197 hK197 => ?_
            refine reg ?_
            refine s_y (y_move (v := (Vi r176)) g195) rfl ?_
            refine s_y (y_neq rfl rfl) rfl ?_
            refine s_nil (hK197 _ _ (genC [(5, (Vi p)), (6, (Vi x)), (17, (Vp g.tb 0)), (20, (Vi (freeA (⟨l, low, high, max, g.first⟩ : Gp) (hE 0) p))), (31, (Vp w172.heap.size 0)), (152, (.bool (decide ((r176 : Int) ≠ 0))))] ⟨g190, g191, g192, g193, g194, rfl, trivial⟩ ?_))
            clear hK197; rintro E ⟨g198, g199, g200, g201, g202, g203, -⟩
            refine cond_d g203 (fun c204 => ?_) (fun c204 => ?_)
            · refine seq fun K205 hK205 => ?_
              refine reg ?_
              refine s_y (y_move (v := (Vp g.tb 0)) g200) rfl ?_
              have hni206 : w172.heap.size ∉ bfp g s173 := (fun e => Nat.lt_irrefl _ (nt (Tab.lt (Nx.tab hn175) _ e) (nl (Nat.le_refl _) (Nat.le_refl _))))
              have hz207 := (nl (nl (nl (nl (nl hz169 hk130.size) hk134.size) hk163.size) hk166.size) (Nx.kp hn175).size)
              have hf208 := (Tab.kp (Tab.k0 (Nx.tab hn175) hk183) hk187 (fun b hb => (fun e => hni206 (e ▸ hb))) (Nat.ne_of_lt (nt (nt (hf51.lt) hz207) (Nat.le_refl _))))
              refine s_e (e_call ca18 (args := [(Vp g.tb 0)]) rfl (len_x hf208)) rfl ?_
              rintro _ w209 ⟨rfl, hk210⟩
              have ka211 := (Kp.then0 ka188 hk210)
              refine s_y (y_eql rfl rfl) rfl ?_
              refine s_y (y_move (v := Vt) rfl) rfl ?_
              have hni212 : 0 ∉ bfp g ⟨0, [], fun _ => []⟩ := (Tab.tbn ht9)
              have hni213 : 0 ∉ bfp g s120 := (Tab.tbn (Nx.tab hn122))
              have hf214 := ((((((((((((hf51.kp hk53 id).kp hk105 id).kp hk115 id).kp (Nx.kp hn122) hni212).kp hk130 id).kp hk134 (Nat.ne_of_lt (nt (nt (hf51.lt) hz169) (Nat.le_refl _)))).kp hk163 id).kp hk166 id).kp (Nx.kp hn175) hni213).kp hk183 id).kp hk187 (Nat.ne_of_lt (nt (nt (hf51.lt) hz207) (Nat.le_refl _)))).kp hk210 id)
              refine s_ge (.yes rfl rfl) (e_call ca22 (args := []) rfl (wakes_spec hf214)) rfl ?_
              rintro _ w215 ⟨rfl, hk216⟩
              have ka217 := (Kp.then0 ka211 hk216)
              refine s_y (y_pick_t rfl (v := Vt) rfl) rfl ?_
              refine s_y (y_assign (v := Vt) rfl) rfl ?_
              refine s_nil (hK205 _ _ (genC [(16, Vt)] ⟨rfl, trivial⟩ ?_))
              clear hK205; rintro E ⟨g218, -⟩
              refine ret (hret _ _ [Vt] ⟨g218, trivial⟩ ?_)
              exact ⟨rfl, ka217⟩
            · exact absurd hr177 c204
          · rw [hA179] at hv174 hn175; subst hv174
            have ka219 := (Kp.fresh ka167 (Nx.kp hn175) fun _ e => nl hk21.size (Tab.ge (Nx.tab hn122) _ e))
            refine s_y (y_move (v := (.tuple #[(.agg #[.int .i64 1, .int .i64 p, u8 ((inT 1 x).addr).b0, u8 ((inT 1 x).addr).b1, u8 ((inT 1 x).addr).b2, u8 ((inT 1 x).addr).b3, u8 ((inT 1 x).addr).b4, u8 ((inT 1 x).addr).b5, u8 ((inT 1 x).addr).b6, u8 ((inT 1 x).addr).b7, u8 ((inT 1 x).addr).b8, u8 ((inT 1 x).addr).b9, u8 ((inT 1 x).addr).b10, u8 ((inT 1 x).addr).b11, u8 ((inT 1 x).addr).b12, u8 ((inT 1 x).addr).b13, u8 ((inT 1 x).addr).b14, u8 ((inT 1 x).addr).b15, .int .i64 ((inT 1 x).port), u8 ((outT 1 tt).addr).a, u8 ((outT 1 tt).addr).b, u8 ((outT 1 tt).addr).c, u8 ((outT 1 tt).addr).d, .int .i64 ((outT 1 tt).port), .bool true, .int .i64 0]), (Vi 0)])) rfl) rfl ?_
            refine s_y (y_ext rfl (v := (.agg #[.int .i64 1, .int .i64 p, u8 ((inT 1 x).addr).b0, u8 ((inT 1 x).addr).b1, u8 ((inT 1 x).addr).b2, u8 ((inT 1 x).addr).b3, u8 ((inT 1 x).addr).b4, u8 ((inT 1 x).addr).b5, u8 ((inT 1 x).addr).b6, u8 ((inT 1 x).addr).b7, u8 ((inT 1 x).addr).b8, u8 ((inT 1 x).addr).b9, u8 ((inT 1 x).addr).b10, u8 ((inT 1 x).addr).b11, u8 ((inT 1 x).addr).b12, u8 ((inT 1 x).addr).b13, u8 ((inT 1 x).addr).b14, u8 ((inT 1 x).addr).b15, .int .i64 ((inT 1 x).port), u8 ((outT 1 tt).addr).a, u8 ((outT 1 tt).addr).b, u8 ((outT 1 tt).addr).c, u8 ((outT 1 tt).addr).d, .int .i64 ((outT 1 tt).port), .bool true, .int .i64 0])) rfl) rfl ?_
            refine s_y (y_ext rfl (v := (Vi 0)) rfl) rfl ?_
            refine s_e (e_alloc ze36) rfl ?_
            rintro _ w220 ⟨rfl, hb221, hk222⟩
            have ka223 := (Kp.then0 ka219 hk222)
            refine s_e0 (e_storeV (cs' := #[(Vi 1), (Vi p), (u8 ((inT 1 x).addr).b0), (u8 ((inT 1 x).addr).b1), (u8 ((inT 1 x).addr).b2), (u8 ((inT 1 x).addr).b3), (u8 ((inT 1 x).addr).b4), (u8 ((inT 1 x).addr).b5), (u8 ((inT 1 x).addr).b6), (u8 ((inT 1 x).addr).b7), (u8 ((inT 1 x).addr).b8), (u8 ((inT 1 x).addr).b9), (u8 ((inT 1 x).addr).b10), (u8 ((inT 1 x).addr).b11), (u8 ((inT 1 x).addr).b12), (u8 ((inT 1 x).addr).b13), (u8 ((inT 1 x).addr).b14), (u8 ((inT 1 x).addr).b15), (Vi ((inT 1 x).port)), (u8 ((outT 1 tt).addr).a), (u8 ((outT 1 tt).addr).b), (u8 ((outT 1 tt).addr).c), (u8 ((outT 1 tt).addr).d), (Vi ((outT 1 tt).port)), Vt, (Vi 0)]) [(Vi 1), (Vi p), (u8 ((inT 1 x).addr).b0), (u8 ((inT 1 x).addr).b1), (u8 ((inT 1 x).addr).b2), (u8 ((inT 1 x).addr).b3), (u8 ((inT 1 x).addr).b4), (u8 ((inT 1 x).addr).b5), (u8 ((inT 1 x).addr).b6), (u8 ((inT 1 x).addr).b7), (u8 ((inT 1 x).addr).b8), (u8 ((inT 1 x).addr).b9), (u8 ((inT 1 x).addr).b10), (u8 ((inT 1 x).addr).b11), (u8 ((inT 1 x).addr).b12), (u8 ((inT 1 x).addr).b13), (u8 ((inT 1 x).addr).b14), (u8 ((inT 1 x).addr).b15), (Vi ((inT 1 x).port)), (u8 ((outT 1 tt).addr).a), (u8 ((outT 1 tt).addr).b), (u8 ((outT 1 tt).addr).c), (u8 ((outT 1 tt).addr).d), (Vi ((outT 1 tt).port)), Vt, (Vi 0)] rfl (v := (.agg #[.int .i64 1, .int .i64 p, u8 ((inT 1 x).addr).b0, u8 ((inT 1 x).addr).b1, u8 ((inT 1 x).addr).b2, u8 ((inT 1 x).addr).b3, u8 ((inT 1 x).addr).b4, u8 ((inT 1 x).addr).b5, u8 ((inT 1 x).addr).b6, u8 ((inT 1 x).addr).b7, u8 ((inT 1 x).addr).b8, u8 ((inT 1 x).addr).b9, u8 ((inT 1 x).addr).b10, u8 ((inT 1 x).addr).b11, u8 ((inT 1 x).addr).b12, u8 ((inT 1 x).addr).b13, u8 ((inT 1 x).addr).b14, u8 ((inT 1 x).addr).b15, .int .i64 ((inT 1 x).port), u8 ((outT 1 tt).addr).a, u8 ((outT 1 tt).addr).b, u8 ((outT 1 tt).addr).c, u8 ((outT 1 tt).addr).d, .int .i64 ((outT 1 tt).port), .bool true, .int .i64 0])) rfl rfl sz36 hb221 rfl rfl rfl) ?_
            rintro _ w224 ⟨hb225, hk226⟩
            have hz228 := (nl (nl (nl (nl (nl hz136 hk130.size) hk134.size) hk163.size) hk166.size) (Nx.kp hn175).size)
            have ka227 := (Kp.fresh ka223 hk226 fun _ e => nl (nl hz228 (Nat.le_refl _)) (Nat.le_of_eq e.symm))
            refine s_y (y_assign (v := (Vi 0)) rfl) rfl ?_
            refine s_nil (hK161 _ _ (genC [(5, (Vi p)), (6, (Vi x)), (17, (Vp g.tb 0)), (20, (Vi (freeA (⟨l, low, high, max, g.first⟩ : Gp) (hE 0) p))), (31, (Vp w172.heap.size 0)), (32, (Vi 0))] ⟨g156, g157, g159, g160, rfl, rfl, trivial⟩ ?_))
            clear hK161; rintro E ⟨g229, g230, g231, g232, g233, g234, -⟩
            refine seq fun K235 hK235 => ?_
            refine seq fun K236 hK236 => ?_
            refine reg ?_
            refine s_y (y_move (v := (Vi 0)) g234) rfl ?_
            refine s_y (y_neq rfl rfl) rfl ?_
            refine s_nil (hK236 _ _ (genC [(5, (Vi p)), (6, (Vi x)), (17, (Vp g.tb 0)), (20, (Vi (freeA (⟨l, low, high, max, g.first⟩ : Gp) (hE 0) p))), (31, (Vp w172.heap.size 0)), (152, Vf)] ⟨g229, g230, g231, g232, g233, rfl, trivial⟩ ?_))
            clear hK236; rintro E ⟨g237, g238, g239, g240, g241, g242, -⟩
            refine cond_f g242 ?_
            refine skip (hK235 _ _ (genC [(5, (Vi p)), (6, (Vi x)), (17, (Vp g.tb 0)), (20, (Vi (freeA (⟨l, low, high, max, g.first⟩ : Gp) (hE 0) p))), (31, (Vp w172.heap.size 0))] ⟨g237, g238, g239, g240, g241, trivial⟩ ?_))
            clear hK235; rintro E ⟨g243, g244, g245, g246, g247, -⟩
            refine seq fun K248 hK248 => ?_
            refine reg ?_
            refine s_y (y_move (v := (Vp g.tb 0)) g245) rfl ?_
            refine s_y (y_fld fo36_0 g247) rfl ?_
            refine s_y (y_load (v := (Vi 1)) rfl (rd_sc sc3 (On.now hb225) rfl)) rfl ?_
            have hni249 : w172.heap.size ∉ bfp g s173 := (fun e => Nat.lt_irrefl _ (nt (Tab.lt (Nx.tab hn175) _ e) (nl (Nat.le_refl _) (Nat.le_refl _))))
            have hz250 := (nl (nl (nl (nl (nl hz169 hk130.size) hk134.size) hk163.size) hk166.size) (Nx.kp hn175).size)
            have hf251 := (Tab.kp (Tab.k0 (Nx.tab hn175) hk222) hk226 (fun b hb => (fun e => hni249 (e ▸ hb))) (Nat.ne_of_lt (nt (nt (hf51.lt) hz250) (Nat.le_refl _))))
            refine s_e (e_call ca16 (args := [(Vp g.tb 0), (Vi 1)]) rfl (hold_x hf251 (by omega) 1 (by omega))) rfl ?_
            rintro v252 w253 ⟨s254, hv255, hn256⟩
            rw [hold_hS] at hv255 hn256; subst hv255
            have ka257 := (Kp.fresh ka227 (Nx.kp hn256) fun _ e => nl hk21.size (Tab.ge (Nx.tab hn175) _ e))
            refine s_nil (hK248 _ _ (genC [(5, (Vi p)), (6, (Vi x)), (17, (Vp g.tb 0)), (20, (Vi (freeA (⟨l, low, high, max, g.first⟩ : Gp) (hE 0) p))), (31, (Vp w172.heap.size 0))] ⟨g243, g244, g245, g246, g247, trivial⟩ ?_))
            clear hK248; rintro E ⟨g258, g259, g260, g261, g262, -⟩
            refine seq fun K263 hK263 => ?_
            refine reg ?_
            refine s_y (y_move (v := (Vp g.tb 0)) g260) rfl ?_
            refine s_y (y_fld fo36_0 g262) rfl ?_
            have hb264 := ((Nx.kp hn256).get hb225 hni249)
            refine s_y (y_load (v := (Vi 1)) rfl (rd_sc sc3 (On.now hb264) rfl)) rfl ?_
            refine s_e (e_call ca16 (args := [(Vp g.tb 0), (Vi 1)]) rfl (hold_x (Nx.tab hn256) (by omega) 1 (by omega))) rfl ?_
            rintro v265 w266 ⟨s267, hv268, hn269⟩
            rw [hold_hS] at hv268 hn269; subst hv268
            have ka270 := (Kp.fresh ka257 (Nx.kp hn269) fun _ e => nl hk21.size (Tab.ge (Nx.tab hn256) _ e))
            refine s_nil (hK263 _ _ (genC [(5, (Vi p)), (6, (Vi x)), (17, (Vp g.tb 0)), (20, (Vi (freeA (⟨l, low, high, max, g.first⟩ : Gp) (hE 0) p))), (31, (Vp w172.heap.size 0))] ⟨g258, g259, g260, g261, g262, trivial⟩ ?_))
            clear hK263; rintro E ⟨g271, g272, g273, g274, g275, -⟩
            refine seq fun K276 hK276 => ?_
            refine reg ?_
            refine s_y (y_move (v := (Vp g.tb 0)) g273) rfl ?_
            refine s_y (y_fld fo36_0 g275) rfl ?_
            have hni277 : w172.heap.size ∉ bfp g s254 := (Nx.notin hn256 hni249 (lt_of_get hb225))
            have hb278 := ((Nx.kp hn269).get hb264 hni277)
            refine s_y (y_load (v := (Vi 1)) rfl (rd_sc sc3 (On.now hb278) rfl)) rfl ?_
            refine s_e (e_call ca17 (args := [(Vp g.tb 0), (Vi 1)]) rfl (drop_x (Nx.tab hn269) (by omega) 1 (by omega))) rfl ?_
            rintro v279 w280 ⟨s281, hv282, hn283⟩
            rw [dropA_stay _ _ _ _ _ (by decide) (Or.inl rfl)] at hv282 hn283; subst hv282
            have ka284 := (Kp.fresh ka270 (Nx.kp hn283) fun _ e => nl hk21.size (Tab.ge (Nx.tab hn269) _ e))
            refine s_y (y_move (v := (.tuple #[Vf, (Vi 0)])) rfl) rfl ?_
            refine s_y (y_ext rfl (v := Vf) rfl) rfl ?_
            refine s_y (y_ext rfl (v := (Vi 0)) rfl) rfl ?_
            refine s_y (y_assign (v := Vf) rfl) rfl ?_
            refine s_y (y_assign (v := (Vi 0)) rfl) rfl ?_
            refine s_nil (hK276 _ _ (genC [(5, (Vi p)), (6, (Vi x)), (17, (Vp g.tb 0)), (20, (Vi (freeA (⟨l, low, high, max, g.first⟩ : Gp) (hE 0) p))), (31, (Vp w172.heap.size 0)), (33, Vf), (34, (Vi 0))] ⟨g271, g272, g273, g274, g275, rfl, rfl, trivial⟩ ?_))
            clear hK276; rintro E ⟨g285, g286, g287, g288, g289, g290, g291, -⟩
            refine seq fun K292 hK292 => ?_
            refine reg ?_
            refine s_y (y_move (v := (Vp g.tb 0)) g287) rfl ?_
            refine s_y (y_move (v := (Vi p)) g285) rfl ?_
            refine s_y (y_move (v := (Vi x)) g286) rfl ?_
            refine s_e (e_call ca14 (args := [(.int .u8 1), (Vi x)]) rfl (inT_spec 1 x _)) rfl ?_
            rintro _ w293 ⟨rfl, hk294⟩
            have ka295 := (Kp.then0 ka284 hk294)
            have hf296 := (Tab.k0 (Nx.tab hn283) hk294)
            refine s_e (e_call ca20 (args := [(Vp g.tb 0), (Vi p), (t6 (inT 1 x))]) rfl (unbind_x hf296 p (inT 1 x) hx)) rfl ?_
            rintro v297 w298 ⟨s299, hv300, hn301⟩
            rw [unbind_hS _ _ _ _ _ hkb9] at hv300 hn301; subst hv300
            have ka302 := (Kp.fresh ka295 (Nx.kp hn301) fun _ e => nl hk21.size (Tab.ge (Nx.tab hn283) _ e))
            refine s_y (y_move (v := (.tuple #[(.agg #[.int .i64 1, .int .i64 p, u8 ((inT 1 x).addr).b0, u8 ((inT 1 x).addr).b1, u8 ((inT 1 x).addr).b2, u8 ((inT 1 x).addr).b3, u8 ((inT 1 x).addr).b4, u8 ((inT 1 x).addr).b5, u8 ((inT 1 x).addr).b6, u8 ((inT 1 x).addr).b7, u8 ((inT 1 x).addr).b8, u8 ((inT 1 x).addr).b9, u8 ((inT 1 x).addr).b10, u8 ((inT 1 x).addr).b11, u8 ((inT 1 x).addr).b12, u8 ((inT 1 x).addr).b13, u8 ((inT 1 x).addr).b14, u8 ((inT 1 x).addr).b15, .int .i64 ((inT 1 x).port), u8 ((outT 1 tt).addr).a, u8 ((outT 1 tt).addr).b, u8 ((outT 1 tt).addr).c, u8 ((outT 1 tt).addr).d, .int .i64 ((outT 1 tt).port), .bool true, .int .i64 1]), (Vi 0)])) rfl) rfl ?_
            refine s_y (y_ext rfl (v := (.agg #[.int .i64 1, .int .i64 p, u8 ((inT 1 x).addr).b0, u8 ((inT 1 x).addr).b1, u8 ((inT 1 x).addr).b2, u8 ((inT 1 x).addr).b3, u8 ((inT 1 x).addr).b4, u8 ((inT 1 x).addr).b5, u8 ((inT 1 x).addr).b6, u8 ((inT 1 x).addr).b7, u8 ((inT 1 x).addr).b8, u8 ((inT 1 x).addr).b9, u8 ((inT 1 x).addr).b10, u8 ((inT 1 x).addr).b11, u8 ((inT 1 x).addr).b12, u8 ((inT 1 x).addr).b13, u8 ((inT 1 x).addr).b14, u8 ((inT 1 x).addr).b15, .int .i64 ((inT 1 x).port), u8 ((outT 1 tt).addr).a, u8 ((outT 1 tt).addr).b, u8 ((outT 1 tt).addr).c, u8 ((outT 1 tt).addr).d, .int .i64 ((outT 1 tt).port), .bool true, .int .i64 1])) rfl) rfl ?_
            refine s_y (y_ext rfl (v := (Vi 0)) rfl) rfl ?_
            refine s_e (e_alloc ze36) rfl ?_
            rintro _ w303 ⟨rfl, hb304, hk305⟩
            have ka306 := (Kp.then0 ka302 hk305)
            refine s_e0 (e_storeV (cs' := #[(Vi 1), (Vi p), (u8 ((inT 1 x).addr).b0), (u8 ((inT 1 x).addr).b1), (u8 ((inT 1 x).addr).b2), (u8 ((inT 1 x).addr).b3), (u8 ((inT 1 x).addr).b4), (u8 ((inT 1 x).addr).b5), (u8 ((inT 1 x).addr).b6), (u8 ((inT 1 x).addr).b7), (u8 ((inT 1 x).addr).b8), (u8 ((inT 1 x).addr).b9), (u8 ((inT 1 x).addr).b10), (u8 ((inT 1 x).addr).b11), (u8 ((inT 1 x).addr).b12), (u8 ((inT 1 x).addr).b13), (u8 ((inT 1 x).addr).b14), (u8 ((inT 1 x).addr).b15), (Vi ((inT 1 x).port)), (u8 ((outT 1 tt).addr).a), (u8 ((outT 1 tt).addr).b), (u8 ((outT 1 tt).addr).c), (u8 ((outT 1 tt).addr).d), (Vi ((outT 1 tt).port)), Vt, (Vi 1)]) [(Vi 1), (Vi p), (u8 ((inT 1 x).addr).b0), (u8 ((inT 1 x).addr).b1), (u8 ((inT 1 x).addr).b2), (u8 ((inT 1 x).addr).b3), (u8 ((inT 1 x).addr).b4), (u8 ((inT 1 x).addr).b5), (u8 ((inT 1 x).addr).b6), (u8 ((inT 1 x).addr).b7), (u8 ((inT 1 x).addr).b8), (u8 ((inT 1 x).addr).b9), (u8 ((inT 1 x).addr).b10), (u8 ((inT 1 x).addr).b11), (u8 ((inT 1 x).addr).b12), (u8 ((inT 1 x).addr).b13), (u8 ((inT 1 x).addr).b14), (u8 ((inT 1 x).addr).b15), (Vi ((inT 1 x).port)), (u8 ((outT 1 tt).addr).a), (u8 ((outT 1 tt).addr).b), (u8 ((outT 1 tt).addr).c), (u8 ((outT 1 tt).addr).d), (Vi ((outT 1 tt).port)), Vt, (Vi 1)] rfl (v := (.agg #[.int .i64 1, .int .i64 p, u8 ((inT 1 x).addr).b0, u8 ((inT 1 x).addr).b1, u8 ((inT 1 x).addr).b2, u8 ((inT 1 x).addr).b3, u8 ((inT 1 x).addr).b4, u8 ((inT 1 x).addr).b5, u8 ((inT 1 x).addr).b6, u8 ((inT 1 x).addr).b7, u8 ((inT 1 x).addr).b8, u8 ((inT 1 x).addr).b9, u8 ((inT 1 x).addr).b10, u8 ((inT 1 x).addr).b11, u8 ((inT 1 x).addr).b12, u8 ((inT 1 x).addr).b13, u8 ((inT 1 x).addr).b14, u8 ((inT 1 x).addr).b15, .int .i64 ((inT 1 x).port), u8 ((outT 1 tt).addr).a, u8 ((outT 1 tt).addr).b, u8 ((outT 1 tt).addr).c, u8 ((outT 1 tt).addr).d, .int .i64 ((outT 1 tt).port), .bool true, .int .i64 1])) rfl rfl sz36 hb304 rfl rfl rfl) ?_
            rintro _ w307 ⟨hb308, hk309⟩
            have hz311 := (nl (nl (nl (nl (nl (nl (nl hz228 hk222.size) hk226.size) (Nx.kp hn256).size) (Nx.kp hn269).size) (Nx.kp hn283).size) hk294.size) (Nx.kp hn301).size)
            have ka310 := (Kp.fresh ka306 hk309 fun _ e => nl (nl hz311 (Nat.le_refl _)) (Nat.le_of_eq e.symm))
            refine s_y (y_assign (v := (Vi 0)) rfl) rfl ?_
            refine s_nil (hK292 _ _ (genC [(5, (Vi p)), (6, (Vi x)), (17, (Vp g.tb 0)), (20, (Vi (freeA (⟨l, low, high, max, g.first⟩ : Gp) (hE 0) p))), (31, (Vp w172.heap.size 0)), (33, Vf), (34, (Vi 0)), (35, (Vp w298.heap.size 0)), (36, (Vi 0))] ⟨g285, g286, g287, g288, g289, g290, g291, rfl, rfl, trivial⟩ ?_))
            clear hK292; rintro E ⟨g312, g313, g314, g315, g316, g317, g318, g319, g320, -⟩
            refine seq fun K321 hK321 => ?_
            refine reg ?_
            refine s_y (y_move (v := (Vp g.tb 0)) g314) rfl ?_
            refine s_y (y_move (v := (Vi p)) g312) rfl ?_
            refine s_y (y_move (v := (Vi x)) g313) rfl ?_
            refine s_e (e_call ca14 (args := [(.int .u8 1), (Vi x)]) rfl (inT_spec 1 x _)) rfl ?_
            rintro _ w322 ⟨rfl, hk323⟩
            have ka324 := (Kp.then0 ka310 hk323)
            have hni325 : w298.heap.size ∉ bfp g s299 := (fun e => Nat.lt_irrefl _ (nt (Tab.lt (Nx.tab hn301) _ e) (nl (Nat.le_refl _) (Nat.le_refl _))))
            have hz326 := (nl (nl (nl (nl (nl (nl (nl hz250 hk222.size) hk226.size) (Nx.kp hn256).size) (Nx.kp hn269).size) (Nx.kp hn283).size) hk294.size) (Nx.kp hn301).size)
            have hf327 := (Tab.k0 (Tab.kp (Tab.k0 (Nx.tab hn301) hk305) hk309 (fun b hb => (fun e => hni325 (e ▸ hb))) (Nat.ne_of_lt (nt (nt (hf51.lt) hz326) (Nat.le_refl _)))) hk323)
            refine s_e (e_call ca20 (args := [(Vp g.tb 0), (Vi p), (t6 (inT 1 x))]) rfl (unbind_x hf327 p (inT 1 x) hx)) rfl ?_
            rintro v328 w329 ⟨s330, hv331, hn332⟩
            rw [unbind_hE _ _ _ hkb9] at hv331 hn332; subst hv331
            have ka333 := (Kp.fresh ka324 (Nx.kp hn332) fun _ e => nl hk21.size (Tab.ge (Nx.tab hn301) _ e))
            refine s_y (y_move (v := (.tuple #[(bv zeroB), (Vi 4)])) rfl) rfl ?_
            refine s_y (y_ext rfl (v := (bv zeroB)) rfl) rfl ?_
            refine s_y (y_ext rfl (v := (Vi 4)) rfl) rfl ?_
            refine s_e (e_alloc ze36) rfl ?_
            rintro _ w334 ⟨rfl, hb335, hk336⟩
            have ka337 := (Kp.then0 ka333 hk336)
            refine s_e0 (e_storeV (cs' := zeroB.cs.toArray) zeroB.cs rfl (v := (bv zeroB)) rfl rfl sz36 hb335 rfl rfl rfl) ?_
            rintro _ w338 ⟨hb339, hk340⟩
            have hz342 := (nl (nl (nl (nl hz311 hk305.size) hk309.size) hk323.size) (Nx.kp hn332).size)
            have ka341 := (Kp.fresh ka337 hk340 fun _ e => nl (nl hz342 (Nat.le_refl _)) (Nat.le_of_eq e.symm))
            refine s_y (y_assign (v := (Vi 4)) rfl) rfl ?_
            refine s_nil (hK321 _ _ (genC [(5, (Vi p)), (17, (Vp g.tb 0)), (20, (Vi (freeA (⟨l, low, high, max, g.first⟩ : Gp) (hE 0) p))), (31, (Vp w172.heap.size 0)), (33, Vf), (34, (Vi 0)), (35, (Vp w298.heap.size 0)), (36, (Vi 0)), (38, (Vi 4))] ⟨g312, g314, g315, g316, g317, g318, g319, g320, rfl, trivial⟩ ?_))
            clear hK321; rintro E ⟨g343, g344, g345, g346, g347, g348, g349, g350, g351, -⟩
            refine seq fun K352 hK352 => ?_
            refine reg ?_
            refine s_y (y_move (v := Vf) g347) rfl ?_
            refine s_y (y_not rfl) rfl ?_
            refine s_y (y_move (v := Vt) rfl) rfl ?_
            refine s_gy (.yes rfl rfl) (y_move (v := (Vi 0)) g348) rfl ?_
            refine s_gy (.yes rfl rfl) (y_eql rfl rfl) rfl ?_
            refine s_y (y_pick_t rfl (v := Vt) rfl) rfl ?_
            refine s_y (y_move (v := Vt) rfl) rfl ?_
            refine s_gy (.yes rfl rfl) (y_move (v := (Vi 0)) g350) rfl ?_
            refine s_gy (.yes rfl rfl) (y_eql rfl rfl) rfl ?_
            refine s_y (y_pick_t rfl (v := Vt) rfl) rfl ?_
            refine s_y (y_move (v := Vt) rfl) rfl ?_
            refine s_gy (.yes rfl rfl) (y_fld fo36_0 g349) rfl ?_
            have hb353 := (hk340.get (hk336.get0 ((Nx.kp hn332).get (hk323.get0 hb308) hni325)) (Nat.ne_of_lt (nt (nt (lt_of_get hb308) (nl hk323.size (Nx.kp hn332).size)) (Nat.le_refl _))))
            refine s_gy (.yes rfl rfl) (y_load (v := (Vi 1)) rfl (rd_sc sc3 (On.now hb353) rfl)) rfl ?_
            refine s_gy (.yes rfl rfl) (y_fld fo36_0 g346) rfl ?_
            have hni354 : w172.heap.size ∉ bfp g s267 := (Nx.notin hn269 hni277 (lt_of_get hb264))
            have hni355 : w172.heap.size ∉ bfp g s281 := (Nx.notin hn283 hni354 (lt_of_get hb278))
            have hz356 := (nl (nl (Nx.kp hn283).size hk294.size) (Nx.kp hn301).size)
            have hni357 : w172.heap.size ∉ bfp g s299 := (Nx.notin hn301 hni355 (nt (lt_of_get hb278) (nl (Nx.kp hn283).size hk294.size)))
            have hz358 := (nl (nl (nl (nl hz356 hk305.size) hk309.size) hk323.size) (Nx.kp hn332).size)
            have hb359 := (hk340.get (hk336.get0 ((Nx.kp hn332).get (hk323.get0 (hk309.get (hk305.get0 ((Nx.kp hn301).get (hk294.get0 ((Nx.kp hn283).get hb278 hni354)) hni355)) (Nat.ne_of_lt (nt (nt (lt_of_get hb278) hz356) (Nat.le_refl _))))) hni357)) (Nat.ne_of_lt (nt (nt (lt_of_get hb278) hz358) (Nat.le_refl _))))
            refine s_gy (.yes rfl rfl) (y_load (v := (Vi 1)) rfl (rd_sc sc3 (On.now hb359) rfl)) rfl ?_
            refine s_gy (.yes rfl rfl) (y_eql rfl rfl) rfl ?_
            refine s_y (y_pick_t rfl (v := Vt) rfl) rfl ?_
            refine s_y (y_move (v := Vt) rfl) rfl ?_
            refine s_gy (.yes rfl rfl) (y_fld fo36_5 g349) rfl ?_
            refine s_gy (.yes rfl rfl) (y_load (v := (Vi 1)) rfl (rd_sc sc3 (On.now hb353) rfl)) rfl ?_
            refine s_gy (.yes rfl rfl) (y_eql rfl rfl) rfl ?_
            refine s_y (y_pick_t rfl (v := Vt) rfl) rfl ?_
            refine s_y (y_move (v := Vt) rfl) rfl ?_
            refine s_gy (.yes rfl rfl) (y_move (v := (Vi 4)) g351) rfl ?_
            refine s_gy (.yes rfl rfl) (y_eql rfl rfl) rfl ?_
            refine s_y (y_pick_t rfl (v := Vt) rfl) rfl ?_
            refine s_y (y_move (v := Vt) rfl) rfl ?_
            refine s_gy (.yes rfl rfl) (y_move (v := (Vp g.tb 0)) g344) rfl ?_
            have hni360 : w329.heap.size ∉ bfp g s330 := (fun e => Nat.lt_irrefl _ (nt (Tab.lt (Nx.tab hn332) _ e) (nl (Nat.le_refl _) (Nat.le_refl _))))
            have hz361 := (nl (nl (nl (nl hz326 hk305.size) hk309.size) hk323.size) (Nx.kp hn332).size)
            have hf362 := (Tab.kp (Tab.k0 (Nx.tab hn332) hk336) hk340 (fun b hb => (fun e => hni360 (e ▸ hb))) (Nat.ne_of_lt (nt (nt (hf51.lt) hz361) (Nat.le_refl _))))
            refine s_ge (.yes rfl rfl) (e_call ca18 (args := [(Vp g.tb 0)]) rfl (len_x hf362)) rfl ?_
            rintro _ w363 ⟨rfl, hk364⟩
            have ka365 := (Kp.then0 ka341 hk364)
            refine s_gy (.yes rfl rfl) (y_eql rfl rfl) rfl ?_
            refine s_y (y_pick_t rfl (v := Vt) rfl) rfl ?_
            refine s_y (y_move (v := Vt) rfl) rfl ?_
            refine s_gy (.yes rfl rfl) (y_move (v := (Vp g.tb 0)) g344) rfl ?_
            refine s_gy (.yes rfl rfl) (y_move (v := (Vi p)) g343) rfl ?_
            have hf366 := (Tab.k0 hf362 hk364)
            refine s_ge (.yes rfl rfl) (e_call ca21 (args := [(Vp g.tb 0), (Vi p)]) rfl (free_x hf366 (by show max ≤ 65536; omega) p)) rfl ?_
            rintro _ w367 ⟨rfl, hk368⟩
            have ka369 := (Kp.then0 ka365 hk368)
            refine s_gy (.yes rfl rfl) (y_move (v := (Vi (freeA (⟨l, low, high, max, g.first⟩ : Gp) (hE 0) p))) g345) rfl ?_
            refine s_gy (.yes rfl rfl) (y_eql rfl rfl) rfl ?_
            refine s_y (y_pick_t rfl (v := (.bool (decide ((freeA (⟨l, low, high, max, g.first⟩ : Gp) (hE 0) p : Int) = freeA (⟨l, low, high, max, g.first⟩ : Gp) (hE 0) p)))) rfl) rfl ?_
            refine s_y (y_move (v := (.bool (decide ((freeA (⟨l, low, high, max, g.first⟩ : Gp) (hE 0) p : Int) = freeA (⟨l, low, high, max, g.first⟩ : Gp) (hE 0) p)))) rfl) rfl ?_
            by_cases c370 : (freeA (⟨l, low, high, max, g.first⟩ : Gp) (hE 0) p : Int) = freeA (⟨l, low, high, max, g.first⟩ : Gp) (hE 0) p
            · have hni371 : 0 ∉ bfp g ⟨0, [], fun _ => []⟩ := (Tab.tbn ht9)
              have hni372 : 0 ∉ bfp g s120 := (Tab.tbn (Nx.tab hn122))
              have hni373 : 0 ∉ bfp g s173 := (Tab.tbn (Nx.tab hn175))
              have hni374 : 0 ∉ bfp g s254 := (Tab.tbn (Nx.tab hn256))
              have hni375 : 0 ∉ bfp g s267 := (Tab.tbn (Nx.tab hn269))
              have hni376 : 0 ∉ bfp g s281 := (Tab.tbn (Nx.tab hn283))
              have hni377 : 0 ∉ bfp g s299 := (Tab.tbn (Nx.tab hn301))
              have hf378 := ((((((((((((((((((((((((hf51.kp hk53 id).kp hk105 id).kp hk115 id).kp (Nx.kp hn122) hni371).kp hk130 id).kp hk134 (Nat.ne_of_lt (nt (nt (hf51.lt) hz169) (Nat.le_refl _)))).kp hk163 id).kp hk166 id).kp (Nx.kp hn175) hni372).kp hk222 id).kp hk226 (Nat.ne_of_lt (nt (nt (hf51.lt) hz250) (Nat.le_refl _)))).kp (Nx.kp hn256) hni373).kp (Nx.kp hn269) hni374).kp (Nx.kp hn283) hni375).kp hk294 id).kp (Nx.kp hn301) hni376).kp hk305 id).kp hk309 (Nat.ne_of_lt (nt (nt (hf51.lt) hz326) (Nat.le_refl _)))).kp hk323 id).kp (Nx.kp hn332) hni377).kp hk336 id).kp hk340 (Nat.ne_of_lt (nt (nt (hf51.lt) hz361) (Nat.le_refl _)))).kp hk364 id).kp hk368 id)
              refine s_ge (.yes rfl (congrArg Value.bool (decide_eq_true c370))) (e_call ca22 (args := []) rfl (wakes_spec hf378)) rfl ?_
              rintro _ w379 ⟨rfl, hk380⟩
              have ka381 := (Kp.then0 ka369 hk380)
              refine s_y (y_pick_t (congrArg Value.bool (decide_eq_true c370)) (v := Vt) rfl) rfl ?_
              refine s_y (y_assign (v := Vt) rfl) rfl ?_
              refine s_nil (hK352 _ _ (genC [(16, Vt)] ⟨rfl, trivial⟩ ?_))
              clear hK352; rintro E ⟨g382, -⟩
              refine ret (hret _ _ [Vt] ⟨g382, trivial⟩ ?_)
              exact ⟨rfl, ka381⟩
            · exact absurd rfl c370
      · rw [hA126] at hv121 hn122; subst hv121
        have ka383 := (Kp.fresh ka116 (Nx.kp hn122) fun _ e => nl hk21.size (Tab.ge ht9 _ e))
        refine s_y (y_move (v := (.tuple #[(.agg #[.int .i64 1, .int .i64 p, u8 ((inT 1 x).addr).b0, u8 ((inT 1 x).addr).b1, u8 ((inT 1 x).addr).b2, u8 ((inT 1 x).addr).b3, u8 ((inT 1 x).addr).b4, u8 ((inT 1 x).addr).b5, u8 ((inT 1 x).addr).b6, u8 ((inT 1 x).addr).b7, u8 ((inT 1 x).addr).b8, u8 ((inT 1 x).addr).b9, u8 ((inT 1 x).addr).b10, u8 ((inT 1 x).addr).b11, u8 ((inT 1 x).addr).b12, u8 ((inT 1 x).addr).b13, u8 ((inT 1 x).addr).b14, u8 ((inT 1 x).addr).b15, .int .i64 ((inT 1 x).port), u8 u9.addr.a, u8 u9.addr.b, u8 u9.addr.c, u8 u9.addr.d, .int .i64 (u9.port), .bool false, .int .i64 0]), (Vi 0)])) rfl) rfl ?_
        refine s_y (y_ext rfl (v := (.agg #[.int .i64 1, .int .i64 p, u8 ((inT 1 x).addr).b0, u8 ((inT 1 x).addr).b1, u8 ((inT 1 x).addr).b2, u8 ((inT 1 x).addr).b3, u8 ((inT 1 x).addr).b4, u8 ((inT 1 x).addr).b5, u8 ((inT 1 x).addr).b6, u8 ((inT 1 x).addr).b7, u8 ((inT 1 x).addr).b8, u8 ((inT 1 x).addr).b9, u8 ((inT 1 x).addr).b10, u8 ((inT 1 x).addr).b11, u8 ((inT 1 x).addr).b12, u8 ((inT 1 x).addr).b13, u8 ((inT 1 x).addr).b14, u8 ((inT 1 x).addr).b15, .int .i64 ((inT 1 x).port), u8 u9.addr.a, u8 u9.addr.b, u8 u9.addr.c, u8 u9.addr.d, .int .i64 (u9.port), .bool false, .int .i64 0])) rfl) rfl ?_
        refine s_y (y_ext rfl (v := (Vi 0)) rfl) rfl ?_
        refine s_e (e_alloc ze36) rfl ?_
        rintro _ w384 ⟨rfl, hb385, hk386⟩
        have ka387 := (Kp.then0 ka383 hk386)
        refine s_e0 (e_storeV (cs' := #[(Vi 1), (Vi p), (u8 ((inT 1 x).addr).b0), (u8 ((inT 1 x).addr).b1), (u8 ((inT 1 x).addr).b2), (u8 ((inT 1 x).addr).b3), (u8 ((inT 1 x).addr).b4), (u8 ((inT 1 x).addr).b5), (u8 ((inT 1 x).addr).b6), (u8 ((inT 1 x).addr).b7), (u8 ((inT 1 x).addr).b8), (u8 ((inT 1 x).addr).b9), (u8 ((inT 1 x).addr).b10), (u8 ((inT 1 x).addr).b11), (u8 ((inT 1 x).addr).b12), (u8 ((inT 1 x).addr).b13), (u8 ((inT 1 x).addr).b14), (u8 ((inT 1 x).addr).b15), (Vi ((inT 1 x).port)), (u8 u9.addr.a), (u8 u9.addr.b), (u8 u9.addr.c), (u8 u9.addr.d), (Vi (u9.port)), Vf, (Vi 0)]) [(Vi 1), (Vi p), (u8 ((inT 1 x).addr).b0), (u8 ((inT 1 x).addr).b1), (u8 ((inT 1 x).addr).b2), (u8 ((inT 1 x).addr).b3), (u8 ((inT 1 x).addr).b4), (u8 ((inT 1 x).addr).b5), (u8 ((inT 1 x).addr).b6), (u8 ((inT 1 x).addr).b7), (u8 ((inT 1 x).addr).b8), (u8 ((inT 1 x).addr).b9), (u8 ((inT 1 x).addr).b10), (u8 ((inT 1 x).addr).b11), (u8 ((inT 1 x).addr).b12), (u8 ((inT 1 x).addr).b13), (u8 ((inT 1 x).addr).b14), (u8 ((inT 1 x).addr).b15), (Vi ((inT 1 x).port)), (u8 u9.addr.a), (u8 u9.addr.b), (u8 u9.addr.c), (u8 u9.addr.d), (Vi (u9.port)), Vf, (Vi 0)] rfl (v := (.agg #[.int .i64 1, .int .i64 p, u8 ((inT 1 x).addr).b0, u8 ((inT 1 x).addr).b1, u8 ((inT 1 x).addr).b2, u8 ((inT 1 x).addr).b3, u8 ((inT 1 x).addr).b4, u8 ((inT 1 x).addr).b5, u8 ((inT 1 x).addr).b6, u8 ((inT 1 x).addr).b7, u8 ((inT 1 x).addr).b8, u8 ((inT 1 x).addr).b9, u8 ((inT 1 x).addr).b10, u8 ((inT 1 x).addr).b11, u8 ((inT 1 x).addr).b12, u8 ((inT 1 x).addr).b13, u8 ((inT 1 x).addr).b14, u8 ((inT 1 x).addr).b15, .int .i64 ((inT 1 x).port), u8 u9.addr.a, u8 u9.addr.b, u8 u9.addr.c, u8 u9.addr.d, .int .i64 (u9.port), .bool false, .int .i64 0])) rfl rfl sz36 hb385 rfl rfl rfl) ?_
        rintro _ w388 ⟨hb389, hk390⟩
        have hz392 := (nl (nl (nl (nl hk21.size hk53.size) hk105.size) hk115.size) (Nx.kp hn122).size)
        have ka391 := (Kp.fresh ka387 hk390 fun _ e => nl (nl hz392 (Nat.le_refl _)) (Nat.le_of_eq e.symm))
        refine s_y (y_assign (v := (Vi 0)) rfl) rfl ?_
        refine s_nil (hK113 _ _ (genC [(5, (Vi p)), (6, (Vi x)), (7, (Vi tt)), (17, (Vp g.tb 0)), (19, (Vi (1 + ((m9 : Nat) : Int)))), (20, (Vi (freeA (⟨l, low, high, max, g.first⟩ : Gp) (hE 0) p))), (21, (Vp w119.heap.size 0)), (22, (Vi 0))] ⟨g107, g108, g109, g110, g111, g112, rfl, rfl, trivial⟩ ?_))
        clear hK113; rintro E ⟨g393, g394, g395, g396, g397, g398, g399, g400, -⟩
        refine seq fun K401 hK401 => ?_
        refine seq fun K402 hK402 => ?_
        refine reg ?_
        refine s_y (y_move (v := (Vi 0)) g400) rfl ?_
        refine s_y (y_eql rfl rfl) rfl ?_
        refine s_nil (hK402 _ _ (genC [(5, (Vi p)), (6, (Vi x)), (7, (Vi tt)), (17, (Vp g.tb 0)), (19, (Vi (1 + ((m9 : Nat) : Int)))), (20, (Vi (freeA (⟨l, low, high, max, g.first⟩ : Gp) (hE 0) p))), (21, (Vp w119.heap.size 0)), (75, Vt)] ⟨g393, g394, g395, g396, g397, g398, g399, rfl, trivial⟩ ?_))
        clear hK402; rintro E ⟨g403, g404, g405, g406, g407, g408, g409, g410, -⟩
        refine cond_t g410 ?_
        refine seq fun K411 hK411 => ?_
        refine seq fun K412 hK412 => ?_
        refine reg ?_
        refine s_y (y_assign (v := (Vi 0)) rfl) rfl ?_
        refine s_nil (hK412 _ _ (genC [(5, (Vi p)), (6, (Vi x)), (7, (Vi tt)), (17, (Vp g.tb 0)), (19, (Vi (1 + ((m9 : Nat) : Int)))), (20, (Vi (freeA (⟨l, low, high, max, g.first⟩ : Gp) (hE 0) p))), (21, (Vp w119.heap.size 0)), (23, (Vi 0))] ⟨g403, g404, g405, g406, g407, g408, g409, rfl, trivial⟩ ?_))
        clear hK412; rintro E ⟨g413, g414, g415, g416, g417, g418, g419, g420, -⟩
        refine block ?_
        have hni421 : w119.heap.size ∉ bfp g s120 := (fun e => Nat.lt_irrefl _ (nt (Tab.lt (Nx.tab hn122) _ e) (nl (Nat.le_refl _) (Nat.le_refl _))))
        have hni0 : w119.heap.size ∉ bfp g s120 := hni421
        have hz422 := (nl (nl (nl hk53.size hk105.size) hk115.size) (Nx.kp hn122).size)
        have hf423 := (Tab.kp (Tab.k0 (Nx.tab hn122) hk386) hk390 (fun b hb => (fun e => hni421 (e ▸ hb))) (Nat.ne_of_lt (nt (nt (hf51.lt) hz422) (Nat.le_refl _))))
        have ht11 := Tab.mono (d := ((0 : Nat) : Int) + 50) hf423 (by omega)
        refine loopG (X := Nat × BibS) (fun q_ E w_ => Has E [(5, (Vi p)), (6, (Vi x)), (7, (Vi tt)), (17, (Vp g.tb 0)), (19, (Vi ((1 + ((m9 : Nat) : Int))))), (20, (Vi (freeA (⟨l, low, high, max, g.first⟩ : Gp) (hE 0) p))), (21, (Vp w119.heap.size 0)), (23, (Vi (((q_.1 : Nat) : Int))))] ∧ Kp (fun k => w20.heap.size ≤ k) w388 w_ ∧ (q_.1 ≤ m9 + 1) ∧ (Tab (⟨l, low, high, max, g.first⟩ : Gp) g (((q_.1 : Nat) : Int) + 50) w20.heap.size (hS 1 p (inT 1 x) u9 false ((q_.1 : Nat) : Int)) q_.2 w_) ∧ (Blk w_ w119.heap.size (⟨1, p, (inT 1 x), u9, false, 0⟩ : Binding).cs.toArray 36) ∧ (w119.heap.size ∉ bfp g q_.2)) (fun q_ => (m9 + 1 - q_.1)) (0, s120) ⟨⟨g413, g414, g415, g416, g417, g418, g419, g420, trivial⟩, Kp.refl _ _, (show 0 ≤ m9 + 1 from (Nat.zero_le _)), (show Tab (⟨l, low, high, max, g.first⟩ : Gp) g (((0 : Nat) : Int) + 50) w20.heap.size (hS 1 p (inT 1 x) u9 false ((0 : Nat) : Int)) s120 w388 from (Tab.state ht11 rfl)), (show Blk w388 w119.heap.size (⟨1, p, (inT 1 x), u9, false, 0⟩ : Binding).cs.toArray 36 from hb389), (show w119.heap.size ∉ bfp g s120 from hni0)⟩ ?_
        rintro ⟨i, s⟩ E w432 ⟨⟨g424, g425, g426, g427, g428, g429, g430, g431, -⟩, hk433, hi435, hi436, hi437, hi438⟩ K434 hK434
        replace g424 : E 5 = (Vi p) := g424
        replace g425 : E 6 = (Vi x) := g425
        replace g426 : E 7 = (Vi tt) := g426
        replace g427 : E 17 = (Vp g.tb 0) := g427
        replace g428 : E 19 = (Vi ((1 + ((m9 : Nat) : Int)))) := g428
        replace g429 : E 20 = (Vi (freeA (⟨l, low, high, max, g.first⟩ : Gp) (hE 0) p)) := g429
        replace g430 : E 21 = (Vp w119.heap.size 0) := g430
        replace g431 : E 23 = (Vi (((i : Nat) : Int))) := g431
        replace hi435 : i ≤ m9 + 1 := hi435
        replace hi436 : Tab (⟨l, low, high, max, g.first⟩ : Gp) g (((i : Nat) : Int) + 50) w20.heap.size (hS 1 p (inT 1 x) u9 false ((i : Nat) : Int)) s w432 := hi436
        replace hi437 : Blk w432 w119.heap.size (⟨1, p, (inT 1 x), u9, false, 0⟩ : Binding).cs.toArray 36 := hi437
        replace hi438 : w119.heap.size ∉ bfp g s := hi438
        have ka439 := (Kp.fresh ka391 hk433 fun _ e => nl hk21.size e)
        have hi9 := hi435
        refine seq fun K440 hK440 => ?_
        refine seq fun K441 hK441 => ?_
        refine reg ?_
        refine s_y (y_move (v := (Vi (((i : Nat) : Int)))) g431) rfl ?_
        refine s_y (y_move (v := (Vi ((1 + ((m9 : Nat) : Int))))) g428) rfl ?_
        refine s_y (y_lss rfl rfl) rfl ?_
        refine s_nil (hK441 _ _ (genC [(5, (Vi p)), (6, (Vi x)), (7, (Vi tt)), (17, (Vp g.tb 0)), (19, (Vi ((1 + ((m9 : Nat) : Int))))), (20, (Vi (freeA (⟨l, low, high, max, g.first⟩ : Gp) (hE 0) p))), (21, (Vp w119.heap.size 0)), (23, (Vi (((i : Nat) : Int)))), (78, (.bool (decide ((((i : Nat) : Int) : Int) < (1 + ((m9 : Nat) : Int))))))] ⟨g424, g425, g426, g427, g428, g429, g430, g431, rfl, trivial⟩ ?_))
        clear hK441; rintro E ⟨g442, g443, g444, g445, g446, g447, g448, g449, g450, -⟩
        refine cond_d g450 (fun c451 => ?_) (fun c451 => ?_)
        · refine skip (hK440 _ _ (genC [(5, (Vi p)), (6, (Vi x)), (7, (Vi tt)), (17, (Vp g.tb 0)), (19, (Vi ((1 + ((m9 : Nat) : Int))))), (20, (Vi (freeA (⟨l, low, high, max, g.first⟩ : Gp) (hE 0) p))), (21, (Vp w119.heap.size 0)), (23, (Vi (((i : Nat) : Int))))] ⟨g442, g443, g444, g445, g446, g447, g448, g449, trivial⟩ ?_))
          clear hK440; rintro E ⟨g452, g453, g454, g455, g456, g457, g458, g459, -⟩
          refine seq fun K460 hK460 => ?_
          refine block ?_
          refine seq fun K461 hK461 => ?_
          refine reg ?_
          refine s_y (y_move (v := (Vp g.tb 0)) g455) rfl ?_
          refine s_y (y_fld fo36_0 g458) rfl ?_
          refine s_y (y_load (v := (Vi 1)) rfl (rd_sc sc3 (On.now hi437) rfl)) rfl ?_
          refine s_e (e_call ca16 (args := [(Vp g.tb 0), (Vi 1)]) rfl (hold_x hi436 (by omega) 1 (by omega))) rfl ?_
          rintro v462 w463 ⟨s464, hv465, hn466⟩
          rw [hold_hS] at hv465 hn466; subst hv465
          have ka467 := (Kp.fresh ka439 (Nx.kp hn466) fun _ e => nl hk21.size (Tab.ge hi436 _ e))
          refine s_y (y_neq rfl rfl) rfl ?_
          refine s_nil (hK461 _ _ (genC [(5, (Vi p)), (6, (Vi x)), (7, (Vi tt)), (17, (Vp g.tb 0)), (19, (Vi ((1 + ((m9 : Nat) : Int))))), (20, (Vi (freeA (⟨l, low, high, max, g.first⟩ : Gp) (hE 0) p))), (21, (Vp w119.heap.size 0)), (23, (Vi (((i : Nat) : Int)))), (85, Vf)] ⟨g452, g453, g454, g455, g456, g457, g458, g459, rfl, trivial⟩ ?_))
          clear hK461; rintro E ⟨g468, g469, g470, g471, g472, g473, g474, g475, g476, -⟩
          refine cond_f g476 ?_
          refine skip (hK460 _ _ (genC [(5, (Vi p)), (6, (Vi x)), (7, (Vi tt)), (17, (Vp g.tb 0)), (19, (Vi ((1 + ((m9 : Nat) : Int))))), (20, (Vi (freeA (⟨l, low, high, max, g.first⟩ : Gp) (hE 0) p))), (21, (Vp w119.heap.size 0)), (23, (Vi (((i : Nat) : Int))))] ⟨g468, g469, g470, g471, g472, g473, g474, g475, trivial⟩ ?_))
          clear hK460; rintro E ⟨g477, g478, g479, g480, g481, g482, g483, g484, -⟩
          refine reg ?_
          refine s_y (y_move (v := (Vi (((i : Nat) : Int)))) g484) rfl ?_
          refine s_y (y_add rfl rfl (c := ((i : Nat) : Int) + 1) (by omega) rfl) rfl ?_
          refine s_y (y_assign (v := (Vi (((i : Nat) : Int) + 1))) rfl) rfl ?_
          have hb485 := ((Nx.kp hn466).get hi437 hi438)
          have hni486 : w119.heap.size ∉ bfp g s464 := (Nx.notin hn466 hi438 (lt_of_get hi437))
          have kc487 : Kp (fun k => w20.heap.size ≤ k) w388 w432 := (Kp.trans (Kp.refl _ _) hk433 fun _ _ e => e)
          have kc488 : Kp (fun k => w20.heap.size ≤ k) w388 w463 := (Kp.trans kc487 (Nx.kp hn466) fun _ _ e => Tab.ge hi436 _ e)
          exact s_nil (hK434 ((i + 1), s464) _ _ ⟨⟨g477, g478, g479, g480, g481, g482, g483, rfl, trivial⟩, kc488, (show (i + 1) ≤ m9 + 1 from (by omega)), (show Tab (⟨l, low, high, max, g.first⟩ : Gp) g ((((i + 1) : Nat) : Int) + 50) w20.heap.size (hS 1 p (inT 1 x) u9 false (((i + 1) : Nat) : Int)) s464 w463 from (Tab.mono (Nx.tab hn466) (by omega))), (show Blk w463 w119.heap.size (⟨1, p, (inT 1 x), u9, false, 0⟩ : Binding).cs.toArray 36 from hb485), (show w119.heap.size ∉ bfp g s464 from hni486)⟩ (by show (m9 + 1 - (i + 1)) < (m9 + 1 - i); omega))
        · have hie9 : i = m9 + 1 := by omega
          refine exit (hK411 _ _ (genC [(5, (Vi p)), (6, (Vi x)), (7, (Vi tt)), (17, (Vp g.tb 0)), (19, (Vi ((1 + ((m9 : Nat) : Int))))), (20, (Vi (freeA (⟨l, low, high, max, g.first⟩ : Gp) (hE 0) p))), (21, (Vp w119.heap.size 0))] ⟨g442, g443, g444, g445, g446, g447, g448, trivial⟩ ?_))
          clear hK411; rintro E ⟨g489, g490, g491, g492, g493, g494, g495, -⟩
          refine seq fun K496 hK496 => ?_
          refine seq fun K497 hK497 => ?_
          refine reg ?_
          refine s_y (y_assign (v := (Vi 0)) rfl) rfl ?_
          refine s_nil (hK497 _ _ (genC [(5, (Vi p)), (6, (Vi x)), (7, (Vi tt)), (17, (Vp g.tb 0)), (19, (Vi ((1 + ((m9 : Nat) : Int))))), (20, (Vi (freeA (⟨l, low, high, max, g.first⟩ : Gp) (hE 0) p))), (21, (Vp w119.heap.size 0)), (24, (Vi 0))] ⟨g489, g490, g491, g492, g493, g494, g495, rfl, trivial⟩ ?_))
          clear hK497; rintro E ⟨g498, g499, g500, g501, g502, g503, g504, g505, -⟩
          refine block ?_
          have hst9 : hD p (inT 1 x) u9 (m9 + 1) 0 = hS 1 p (inT 1 x) u9 false ((i : Nat) : Int) := by rw [hD_lt (by omega), hie9]; rfl
          refine loopG (X := Nat × BibS) (fun q_ E w_ => Has E [(5, (Vi p)), (6, (Vi x)), (7, (Vi tt)), (17, (Vp g.tb 0)), (19, (Vi ((1 + ((m9 : Nat) : Int))))), (20, (Vi (freeA (⟨l, low, high, max, g.first⟩ : Gp) (hE 0) p))), (21, (Vp w119.heap.size 0)), (24, (Vi (((q_.1 : Nat) : Int))))] ∧ Kp (fun k => w20.heap.size ≤ k) w432 w_ ∧ (q_.1 ≤ m9 + 1) ∧ (Tab (⟨l, low, high, max, g.first⟩ : Gp) g (((q_.1 : Nat) : Int) + 100) w20.heap.size (hD p (inT 1 x) u9 (m9 + 1) q_.1) q_.2 w_) ∧ (Blk w_ w119.heap.size (⟨1, p, (inT 1 x), u9, false, 0⟩ : Binding).cs.toArray 36) ∧ (w119.heap.size ∉ bfp g q_.2)) (fun q_ => (m9 + 1 - q_.1)) (0, s) ⟨⟨g498, g499, g500, g501, g502, g503, g504, g505, trivial⟩, Kp.refl _ _, (show 0 ≤ m9 + 1 from (Nat.zero_le _)), (show Tab (⟨l, low, high, max, g.first⟩ : Gp) g (((0 : Nat) : Int) + 100) w20.heap.size (hD p (inT 1 x) u9 (m9 + 1) 0) s w432 from (Tab.mono (Tab.state hi436 hst9) (by omega))), (show Blk w432 w119.heap.size (⟨1, p, (inT 1 x), u9, false, 0⟩ : Binding).cs.toArray 36 from hi437), (show w119.heap.size ∉ bfp g s from hi438)⟩ ?_
          rintro ⟨j, t⟩ E w514 ⟨⟨g506, g507, g508, g509, g510, g511, g512, g513, -⟩, hk515, hi517, hi518, hi519, hi520⟩ K516 hK516
          replace g506 : E 5 = (Vi p) := g506
          replace g507 : E 6 = (Vi x) := g507
          replace g508 : E 7 = (Vi tt) := g508
          replace g509 : E 17 = (Vp g.tb 0) := g509
          replace g510 : E 19 = (Vi ((1 + ((m9 : Nat) : Int)))) := g510
          replace g511 : E 20 = (Vi (freeA (⟨l, low, high, max, g.first⟩ : Gp) (hE 0) p)) := g511
          replace g512 : E 21 = (Vp w119.heap.size 0) := g512
          replace g513 : E 24 = (Vi (((j : Nat) : Int))) := g513
          replace hi517 : j ≤ m9 + 1 := hi517
          replace hi518 : Tab (⟨l, low, high, max, g.first⟩ : Gp) g (((j : Nat) : Int) + 100) w20.heap.size (hD p (inT 1 x) u9 (m9 + 1) j) t w514 := hi518
          replace hi519 : Blk w514 w119.heap.size (⟨1, p, (inT 1 x), u9, false, 0⟩ : Binding).cs.toArray 36 := hi519
          replace hi520 : w119.heap.size ∉ bfp g t := hi520
          have ka521 := (Kp.fresh ka439 hk515 fun _ e => nl hk21.size e)
          have hj9 := hi517; have htj9 := hi518
          refine seq fun K522 hK522 => ?_
          refine seq fun K523 hK523 => ?_
          refine reg ?_
          refine s_y (y_move (v := (Vi (((j : Nat) : Int)))) g513) rfl ?_
          refine s_y (y_move (v := (Vi ((1 + ((m9 : Nat) : Int))))) g510) rfl ?_
          refine s_y (y_lss rfl rfl) rfl ?_
          refine s_nil (hK523 _ _ (genC [(5, (Vi p)), (6, (Vi x)), (7, (Vi tt)), (17, (Vp g.tb 0)), (19, (Vi ((1 + ((m9 : Nat) : Int))))), (20, (Vi (freeA (⟨l, low, high, max, g.first⟩ : Gp) (hE 0) p))), (21, (Vp w119.heap.size 0)), (24, (Vi (((j : Nat) : Int)))), (88, (.bool (decide ((((j : Nat) : Int) : Int) < (1 + ((m9 : Nat) : Int))))))] ⟨g506, g507, g508, g509, g510, g511, g512, g513, rfl, trivial⟩ ?_))
          clear hK523; rintro E ⟨g524, g525, g526, g527, g528, g529, g530, g531, g532, -⟩
          refine cond_d g532 (fun c533 => ?_) (fun c533 => ?_)
          · have hts9 := Tab.state htj9 (hD_lt (p := p) (t := (inT 1 x)) (u := u9) (show j < m9 + 1 by omega)).symm
            by_cases hl9 : j = m9
            · have hone9 : ((m9 + 1 - j : Nat) : Int) = 1 := by omega
              rw [hone9] at hts9
              refine skip (hK522 _ _ (genC [(5, (Vi p)), (6, (Vi x)), (7, (Vi tt)), (17, (Vp g.tb 0)), (19, (Vi ((1 + ((m9 : Nat) : Int))))), (20, (Vi (freeA (⟨l, low, high, max, g.first⟩ : Gp) (hE 0) p))), (21, (Vp w119.heap.size 0)), (24, (Vi (((j : Nat) : Int))))] ⟨g524, g525, g526, g527, g528, g529, g530, g531, trivial⟩ ?_))
              clear hK522; rintro E ⟨g534, g535, g536, g537, g538, g539, g540, g541, -⟩
              refine seq fun K542 hK542 => ?_
              refine block ?_
              refine seq fun K543 hK543 => ?_
              refine reg ?_
              refine s_y (y_move (v := (Vp g.tb 0)) g537) rfl ?_
              refine s_y (y_fld fo36_0 g540) rfl ?_
              refine s_y (y_load (v := (Vi 1)) rfl (rd_sc sc3 (On.now hi519) rfl)) rfl ?_
              refine s_e (e_call ca17 (args := [(Vp g.tb 0), (Vi 1)]) rfl (drop_x hts9 (by omega) 1 (by omega))) rfl ?_
              rintro v544 w545 ⟨s546, hv547, hn548⟩
              rw [dropA_gone] at hv547 hn548; subst hv547
              have ka549 := (Kp.fresh ka521 (Nx.kp hn548) fun _ e => nl hk21.size (Tab.ge hts9 _ e))
              refine s_y (y_move (v := (.tuple #[Vt, (Vi 0)])) rfl) rfl ?_
              refine s_y (y_ext rfl (v := Vt) rfl) rfl ?_
              refine s_y (y_ext rfl (v := (Vi 0)) rfl) rfl ?_
              refine s_y (y_assign (v := Vt) rfl) rfl ?_
              refine s_y (y_assign (v := (Vi 0)) rfl) rfl ?_
              refine s_nil (hK543 _ _ (genC [(5, (Vi p)), (6, (Vi x)), (7, (Vi tt)), (17, (Vp g.tb 0)), (19, (Vi ((1 + ((m9 : Nat) : Int))))), (20, (Vi (freeA (⟨l, low, high, max, g.first⟩ : Gp) (hE 0) p))), (21, (Vp w119.heap.size 0)), (24, (Vi (((j : Nat) : Int)))), (25, Vt), (26, (Vi 0))] ⟨g534, g535, g536, g537, g538, g539, g540, g541, rfl, rfl, trivial⟩ ?_))
              clear hK543; rintro E ⟨g550, g551, g552, g553, g554, g555, g556, g557, g558, g559, -⟩
              refine seq fun K560 hK560 => ?_
              refine reg ?_
              refine s_y (y_move (v := (Vp g.tb 0)) g553) rfl ?_
              refine s_y (y_fld fo36_0 g556) rfl ?_
              have hb561 := ((Nx.kp hn548).get hi519 hi520)
              refine s_y (y_load (v := (Vi 1)) rfl (rd_sc sc3 (On.now hb561) rfl)) rfl ?_
              refine s_e (e_call ca24 (args := [(Vp g.tb 0), (Vi 1)]) rfl (id_x (Nx.tab hn548) 1 (by omega))) rfl ?_
              rintro v562 w563 ⟨hv565, hk564⟩
              rw [id_hE] at hv565; subst hv565
              have ka566 := (Kp.then0 ka549 hk564)
              refine s_y (y_move (v := (.tuple #[(bv zeroB), Vf])) rfl) rfl ?_
              refine s_y (y_ext rfl (v := (bv zeroB)) rfl) rfl ?_
              refine s_y (y_ext rfl (v := Vf) rfl) rfl ?_
              refine s_e (e_alloc ze36) rfl ?_
              rintro _ w567 ⟨rfl, hb568, hk569⟩
              have ka570 := (Kp.then0 ka566 hk569)
              refine s_e0 (e_storeV (cs' := zeroB.cs.toArray) zeroB.cs rfl (v := (bv zeroB)) rfl rfl sz36 hb568 rfl rfl rfl) ?_
              rintro _ w571 ⟨hb572, hk573⟩
              have hz575 := (nl (nl (nl (nl (nl (nl hz392 hk386.size) hk390.size) hk433.size) hk515.size) (Nx.kp hn548).size) hk564.size)
              have ka574 := (Kp.fresh ka570 hk573 fun _ e => nl (nl hz575 (Nat.le_refl _)) (Nat.le_of_eq e.symm))
              refine s_y (y_assign (v := Vf) rfl) rfl ?_
              refine s_nil (hK560 _ _ (genC [(5, (Vi p)), (6, (Vi x)), (7, (Vi tt)), (17, (Vp g.tb 0)), (19, (Vi ((1 + ((m9 : Nat) : Int))))), (20, (Vi (freeA (⟨l, low, high, max, g.first⟩ : Gp) (hE 0) p))), (21, (Vp w119.heap.size 0)), (24, (Vi (((j : Nat) : Int)))), (25, Vt), (26, (Vi 0)), (28, Vf)] ⟨g550, g551, g552, g553, g554, g555, g556, g557, g558, g559, rfl, trivial⟩ ?_))
              clear hK560; rintro E ⟨g576, g577, g578, g579, g580, g581, g582, g583, g584, g585, g586, -⟩
              refine seq fun K587 hK587 => ?_
              refine reg ?_
              refine s_y (y_move (v := (Vi 0)) g585) rfl ?_
              refine s_y (y_neq rfl rfl) rfl ?_
              refine s_y (y_move (v := Vf) rfl) rfl ?_
              refine s_gy (.yes rfl rfl) (y_move (v := Vt) g584) rfl ?_
              refine s_gy (.yes rfl rfl) (y_move (v := (Vi (((j : Nat) : Int)))) g583) rfl ?_
              refine s_gy (.yes rfl rfl) (y_move (v := (Vi ((1 + ((m9 : Nat) : Int))))) g580) rfl ?_
              refine s_gy (.yes rfl rfl) (y_sub rfl rfl (c := (1 + ((m9 : Nat) : Int)) - 1) (by omega) rfl) rfl ?_
              refine s_gy (.yes rfl rfl) (y_eql rfl rfl) rfl ?_
              refine s_gy (.yes rfl rfl) (y_bneq Tryd.underlying4 rfl rfl) rfl ?_
              refine s_y (y_pick_f rfl (v := (.bool (!(true == (decide ((((j : Nat) : Int) : Int) = (1 + ((m9 : Nat) : Int)) - 1)))))) rfl) rfl ?_
              refine s_y (y_move (v := (.bool (!(true == (decide ((((j : Nat) : Int) : Int) = (1 + ((m9 : Nat) : Int)) - 1)))))) rfl) rfl ?_
              refine (Bool.eq_false_or_eq_true (!(true == (decide ((((j : Nat) : Int) : Int) = (1 + ((m9 : Nat) : Int)) - 1))))).elim (fun c588 => ?_) (fun c588 => ?_)
              · exact absurd c588 (by simp; try omega)
              · refine s_gy (.yes rfl (congrArg Value.bool c588)) (y_move (v := Vf) g586) rfl ?_
                refine s_gy (.yes rfl (congrArg Value.bool c588)) (y_move (v := Vt) g584) rfl ?_
                refine s_gy (.yes rfl (congrArg Value.bool c588)) (y_beql Tryd.underlying4 rfl rfl) rfl ?_
                refine s_y (y_pick_f (congrArg Value.bool c588) (v := (.bool (false == true))) rfl) rfl ?_
                refine s_nil (hK587 _ _ (genC [(5, (Vi p)), (6, (Vi x)), (7, (Vi tt)), (17, (Vp g.tb 0)), (19, (Vi ((1 + ((m9 : Nat) : Int))))), (20, (Vi (freeA (⟨l, low, high, max, g.first⟩ : Gp) (hE 0) p))), (21, (Vp w119.heap.size 0)), (24, (Vi (((j : Nat) : Int)))), (119, (.bool (false == true)))] ⟨g576, g577, g578, g579, g580, g581, g582, g583, rfl, trivial⟩ ?_))
                clear hK587; rintro E ⟨g589, g590, g591, g592, g593, g594, g595, g596, g597, -⟩
                refine cond_b g597 (fun c598 => ?_) (fun c598 => ?_)
                · exact absurd c598 (by simp; try omega)
                · refine skip (hK542 _ _ (genC [(5, (Vi p)), (6, (Vi x)), (7, (Vi tt)), (17, (Vp g.tb 0)), (19, (Vi ((1 + ((m9 : Nat) : Int))))), (20, (Vi (freeA (⟨l, low, high, max, g.first⟩ : Gp) (hE 0) p))), (21, (Vp w119.heap.size 0)), (24, (Vi (((j : Nat) : Int))))] ⟨g589, g590, g591, g592, g593, g594, g595, g596, trivial⟩ ?_))
                  clear hK542; rintro E ⟨g599, g600, g601, g602, g603, g604, g605, g606, -⟩
                  refine reg ?_
                  refine s_y (y_move (v := (Vi (((j : Nat) : Int)))) g606) rfl ?_
                  refine s_y (y_add rfl rfl (c := ((j : Nat) : Int) + 1) (by omega) rfl) rfl ?_
                  refine s_y (y_assign (v := (Vi (((j : Nat) : Int) + 1))) rfl) rfl ?_
                  have hs19 : hD p (inT 1 x) u9 (m9 + 1) (j + 1) = hE 1 := by exact hD_ge (by omega)
                  have hni607 : w563.heap.size ∉ bfp g s546 := (fun e => Nat.lt_irrefl _ (nt (Tab.lt (Nx.tab hn548) _ e) (nl hk564.size (Nat.le_refl _))))
                  have hz608 := (nl (nl (nl (nl (nl (nl hz422 hk386.size) hk390.size) hk433.size) hk515.size) (Nx.kp hn548).size) hk564.size)
                  have hf609 := (Tab.kp (Tab.k0 (Tab.k0 (Nx.tab hn548) hk564) hk569) hk573 (fun b hb => (fun e => hni607 (e ▸ hb))) (Nat.ne_of_lt (nt (nt (hf51.lt) hz608) (Nat.le_refl _))))
                  have hb610 := (hk573.get (hk569.get0 (hk564.get0 hb561)) (Nat.ne_of_lt (nt (nt (lt_of_get hb561) hk564.size) (Nat.le_refl _))))
                  have hni611 : w119.heap.size ∉ bfp g s546 := (Nx.notin hn548 hi520 (lt_of_get hi519))
                  have kc612 : Kp (fun k => w20.heap.size ≤ k) w432 w514 := (Kp.trans (Kp.refl _ _) hk515 fun _ _ e => e)
                  have kc613 : Kp (fun k => w20.heap.size ≤ k) w432 w545 := (Kp.trans kc612 (Nx.kp hn548) fun _ _ e => Tab.ge hts9 _ e)
                  have kc614 : Kp (fun k => w20.heap.size ≤ k) w432 w563 := (Kp.then0 kc613 hk564)
                  have kc615 : Kp (fun k => w20.heap.size ≤ k) w432 w567 := (Kp.then0 kc614 hk569)
                  have kc616 : Kp (fun k => w20.heap.size ≤ k) w432 w571 := (Kp.trans kc615 hk573 fun _ _ e => (fun e => nl (nl hz608 (Nat.le_refl _)) (Nat.le_of_eq e.symm)) e)
                  exact s_nil (hK516 ((j + 1), s546) _ _ ⟨⟨g599, g600, g601, g602, g603, g604, g605, rfl, trivial⟩, kc616, (show (j + 1) ≤ m9 + 1 from (by omega)), (show Tab (⟨l, low, high, max, g.first⟩ : Gp) g ((((j + 1) : Nat) : Int) + 100) w20.heap.size (hD p (inT 1 x) u9 (m9 + 1) (j + 1)) s546 w571 from (Tab.mono (Tab.state hf609 hs19) (by omega))), (show Blk w571 w119.heap.size (⟨1, p, (inT 1 x), u9, false, 0⟩ : Binding).cs.toArray 36 from hb610), (show w119.heap.size ∉ bfp g s546 from hni611)⟩ (by show (m9 + 1 - (j + 1)) < (m9 + 1 - j); omega))
            · refine skip (hK522 _ _ (genC [(5, (Vi p)), (6, (Vi x)), (7, (Vi tt)), (17, (Vp g.tb 0)), (19, (Vi ((1 + ((m9 : Nat) : Int))))), (20, (Vi (freeA (⟨l, low, high, max, g.first⟩ : Gp) (hE 0) p))), (21, (Vp w119.heap.size 0)), (24, (Vi (((j : Nat) : Int))))] ⟨g524, g525, g526, g527, g528, g529, g530, g531, trivial⟩ ?_))
              clear hK522; rintro E ⟨g617, g618, g619, g620, g621, g622, g623, g624, -⟩
              refine seq fun K625 hK625 => ?_
              refine block ?_
              refine seq fun K626 hK626 => ?_
              refine reg ?_
              refine s_y (y_move (v := (Vp g.tb 0)) g620) rfl ?_
              refine s_y (y_fld fo36_0 g623) rfl ?_
              refine s_y (y_load (v := (Vi 1)) rfl (rd_sc sc3 (On.now hi519) rfl)) rfl ?_
              refine s_e (e_call ca17 (args := [(Vp g.tb 0), (Vi 1)]) rfl (drop_x hts9 (by omega) 1 (by omega))) rfl ?_
              rintro v627 w628 ⟨s629, hv630, hn631⟩
              rw [dropA_stay _ _ _ _ _ (by omega) (Or.inr (by omega))] at hv630 hn631; subst hv630
              have ka632 := (Kp.fresh ka521 (Nx.kp hn631) fun _ e => nl hk21.size (Tab.ge hts9 _ e))
              refine s_y (y_move (v := (.tuple #[Vf, (Vi 0)])) rfl) rfl ?_
              refine s_y (y_ext rfl (v := Vf) rfl) rfl ?_
              refine s_y (y_ext rfl (v := (Vi 0)) rfl) rfl ?_
              refine s_y (y_assign (v := Vf) rfl) rfl ?_
              refine s_y (y_assign (v := (Vi 0)) rfl) rfl ?_
              refine s_nil (hK626 _ _ (genC [(5, (Vi p)), (6, (Vi x)), (7, (Vi tt)), (17, (Vp g.tb 0)), (19, (Vi ((1 + ((m9 : Nat) : Int))))), (20, (Vi (freeA (⟨l, low, high, max, g.first⟩ : Gp) (hE 0) p))), (21, (Vp w119.heap.size 0)), (24, (Vi (((j : Nat) : Int)))), (25, Vf), (26, (Vi 0))] ⟨g617, g618, g619, g620, g621, g622, g623, g624, rfl, rfl, trivial⟩ ?_))
              clear hK626; rintro E ⟨g633, g634, g635, g636, g637, g638, g639, g640, g641, g642, -⟩
              refine seq fun K643 hK643 => ?_
              refine reg ?_
              refine s_y (y_move (v := (Vp g.tb 0)) g636) rfl ?_
              refine s_y (y_fld fo36_0 g639) rfl ?_
              have hb644 := ((Nx.kp hn631).get hi519 hi520)
              refine s_y (y_load (v := (Vi 1)) rfl (rd_sc sc3 (On.now hb644) rfl)) rfl ?_
              refine s_e (e_call ca24 (args := [(Vp g.tb 0), (Vi 1)]) rfl (id_x (Nx.tab hn631) 1 (by omega))) rfl ?_
              rintro v645 w646 ⟨hv648, hk647⟩
              rw [id_hS] at hv648; subst hv648
              have ka649 := (Kp.then0 ka632 hk647)
              refine s_y (y_move (v := (.tuple #[(.agg #[.int .i64 1, .int .i64 p, u8 ((inT 1 x).addr).b0, u8 ((inT 1 x).addr).b1, u8 ((inT 1 x).addr).b2, u8 ((inT 1 x).addr).b3, u8 ((inT 1 x).addr).b4, u8 ((inT 1 x).addr).b5, u8 ((inT 1 x).addr).b6, u8 ((inT 1 x).addr).b7, u8 ((inT 1 x).addr).b8, u8 ((inT 1 x).addr).b9, u8 ((inT 1 x).addr).b10, u8 ((inT 1 x).addr).b11, u8 ((inT 1 x).addr).b12, u8 ((inT 1 x).addr).b13, u8 ((inT 1 x).addr).b14, u8 ((inT 1 x).addr).b15, .int .i64 ((inT 1 x).port), u8 u9.addr.a, u8 u9.addr.b, u8 u9.addr.c, u8 u9.addr.d, .int .i64 (u9.port), .bool false, .int .i64 _]), Vt])) rfl) rfl ?_
              refine s_y (y_ext rfl (v := (.agg #[.int .i64 1, .int .i64 p, u8 ((inT 1 x).addr).b0, u8 ((inT 1 x).addr).b1, u8 ((inT 1 x).addr).b2, u8 ((inT 1 x).addr).b3, u8 ((inT 1 x).addr).b4, u8 ((inT 1 x).addr).b5, u8 ((inT 1 x).addr).b6, u8 ((inT 1 x).addr).b7, u8 ((inT 1 x).addr).b8, u8 ((inT 1 x).addr).b9, u8 ((inT 1 x).addr).b10, u8 ((inT 1 x).addr).b11, u8 ((inT 1 x).addr).b12, u8 ((inT 1 x).addr).b13, u8 ((inT 1 x).addr).b14, u8 ((inT 1 x).addr).b15, .int .i64 ((inT 1 x).port), u8 u9.addr.a, u8 u9.addr.b, u8 u9.addr.c, u8 u9.addr.d, .int .i64 (u9.port), .bool false, .int .i64 _])) rfl) rfl ?_
              refine s_y (y_ext rfl (v := Vt) rfl) rfl ?_
              refine s_e (e_alloc ze36) rfl ?_
              rintro _ w650 ⟨rfl, hb651, hk652⟩
              have ka653 := (Kp.then0 ka649 hk652)
              refine s_e0 (e_storeV (cs' := #[(Vi 1), (Vi p), (u8 ((inT 1 x).addr).b0), (u8 ((inT 1 x).addr).b1), (u8 ((inT 1 x).addr).b2), (u8 ((inT 1 x).addr).b3), (u8 ((inT 1 x).addr).b4), (u8 ((inT 1 x).addr).b5), (u8 ((inT 1 x).addr).b6), (u8 ((inT 1 x).addr).b7), (u8 ((inT 1 x).addr).b8), (u8 ((inT 1 x).addr).b9), (u8 ((inT 1 x).addr).b10), (u8 ((inT 1 x).addr).b11), (u8 ((inT 1 x).addr).b12), (u8 ((inT 1 x).addr).b13), (u8 ((inT 1 x).addr).b14), (u8 ((inT 1 x).addr).b15), (Vi ((inT 1 x).port)), (u8 u9.addr.a), (u8 u9.addr.b), (u8 u9.addr.c), (u8 u9.addr.d), (Vi (u9.port)), Vf, (Vi _)]) [(Vi 1), (Vi p), (u8 ((inT 1 x).addr).b0), (u8 ((inT 1 x).addr).b1), (u8 ((inT 1 x).addr).b2), (u8 ((inT 1 x).addr).b3), (u8 ((inT 1 x).addr).b4), (u8 ((inT 1 x).addr).b5), (u8 ((inT 1 x).addr).b6), (u8 ((inT 1 x).addr).b7), (u8 ((inT 1 x).addr).b8), (u8 ((inT 1 x).addr).b9), (u8 ((inT 1 x).addr).b10), (u8 ((inT 1 x).addr).b11), (u8 ((inT 1 x).addr).b12), (u8 ((inT 1 x).addr).b13), (u8 ((inT 1 x).addr).b14), (u8 ((inT 1 x).addr).b15), (Vi ((inT 1 x).port)), (u8 u9.addr.a), (u8 u9.addr.b), (u8 u9.addr.c), (u8 u9.addr.d), (Vi (u9.port)), Vf, (Vi _)] rfl (v := (.agg #[.int .i64 1, .int .i64 p, u8 ((inT 1 x).addr).b0, u8 ((inT 1 x).addr).b1, u8 ((inT 1 x).addr).b2, u8 ((inT 1 x).addr).b3, u8 ((inT 1 x).addr).b4, u8 ((inT 1 x).addr).b5, u8 ((inT 1 x).addr).b6, u8 ((inT 1 x).addr).b7, u8 ((inT 1 x).addr).b8, u8 ((inT 1 x).addr).b9, u8 ((inT 1 x).addr).b10, u8 ((inT 1 x).addr).b11, u8 ((inT 1 x).addr).b12, u8 ((inT 1 x).addr).b13, u8 ((inT 1 x).addr).b14, u8 ((inT 1 x).addr).b15, .int .i64 ((inT 1 x).port), u8 u9.addr.a, u8 u9.addr.b, u8 u9.addr.c, u8 u9.addr.d, .int .i64 (u9.port), .bool false, .int .i64 _])) rfl rfl sz36 hb651 rfl rfl rfl) ?_
              rintro _ w654 ⟨hb655, hk656⟩
              have hz658 := (nl (nl (nl (nl (nl (nl hz392 hk386.size) hk390.size) hk433.size) hk515.size) (Nx.kp hn631).size) hk647.size)
              have ka657 := (Kp.fresh ka653 hk656 fun _ e => nl (nl hz658 (Nat.le_refl _)) (Nat.le_of_eq e.symm))
              refine s_y (y_assign (v := Vt) rfl) rfl ?_
              refine s_nil (hK643 _ _ (genC [(5, (Vi p)), (6, (Vi x)), (7, (Vi tt)), (17, (Vp g.tb 0)), (19, (Vi ((1 + ((m9 : Nat) : Int))))), (20, (Vi (freeA (⟨l, low, high, max, g.first⟩ : Gp) (hE 0) p))), (21, (Vp w119.heap.size 0)), (24, (Vi (((j : Nat) : Int)))), (25, Vf), (26, (Vi 0)), (28, Vt)] ⟨g633, g634, g635, g636, g637, g638, g639, g640, g641, g642, rfl, trivial⟩ ?_))
              clear hK643; rintro E ⟨g659, g660, g661, g662, g663, g664, g665, g666, g667, g668, g669, -⟩
              refine seq fun K670 hK670 => ?_
              refine reg ?_
              refine s_y (y_move (v := (Vi 0)) g668) rfl ?_
              refine s_y (y_neq rfl rfl) rfl ?_
              refine s_y (y_move (v := Vf) rfl) rfl ?_
              refine s_gy (.yes rfl rfl) (y_move (v := Vf) g667) rfl ?_
              refine s_gy (.yes rfl rfl) (y_move (v := (Vi (((j : Nat) : Int)))) g666) rfl ?_
              refine s_gy (.yes rfl rfl) (y_move (v := (Vi ((1 + ((m9 : Nat) : Int))))) g663) rfl ?_
              refine s_gy (.yes rfl rfl) (y_sub rfl rfl (c := (1 + ((m9 : Nat) : Int)) - 1) (by omega) rfl) rfl ?_
              refine s_gy (.yes rfl rfl) (y_eql rfl rfl) rfl ?_
              refine s_gy (.yes rfl rfl) (y_bneq Tryd.underlying4 rfl rfl) rfl ?_
              refine s_y (y_pick_f rfl (v := (.bool (!(false == (decide ((((j : Nat) : Int) : Int) = (1 + ((m9 : Nat) : Int)) - 1)))))) rfl) rfl ?_
              refine s_y (y_move (v := (.bool (!(false == (decide ((((j : Nat) : Int) : Int) = (1 + ((m9 : Nat) : Int)) - 1)))))) rfl) rfl ?_
              refine (Bool.eq_false_or_eq_true (!(false == (decide ((((j : Nat) : Int) : Int) = (1 + ((m9 : Nat) : Int)) - 1))))).elim (fun c671 => ?_) (fun c671 => ?_)
              · exact absurd c671 (by simp; try omega)
              · refine s_gy (.yes rfl (congrArg Value.bool c671)) (y_move (v := Vt) g669) rfl ?_
                refine s_gy (.yes rfl (congrArg Value.bool c671)) (y_move (v := Vf) g667) rfl ?_
                refine s_gy (.yes rfl (congrArg Value.bool c671)) (y_beql Tryd.underlying4 rfl rfl) rfl ?_
                refine s_y (y_pick_f (congrArg Value.bool c671) (v := (.bool (true == false))) rfl) rfl ?_
                refine s_nil (hK670 _ _ (genC [(5, (Vi p)), (6, (Vi x)), (7, (Vi tt)), (17, (Vp g.tb 0)), (19, (Vi ((1 + ((m9 : Nat) : Int))))), (20, (Vi (freeA (⟨l, low, high, max, g.first⟩ : Gp) (hE 0) p))), (21, (Vp w119.heap.size 0)), (24, (Vi (((j : Nat) : Int)))), (119, (.bool (true == false)))] ⟨g659, g660, g661, g662, g663, g664, g665, g666, rfl, trivial⟩ ?_))
                clear hK670; rintro E ⟨g672, g673, g674, g675, g676, g677, g678, g679, g680, -⟩
                refine cond_b g680 (fun c681 => ?_) (fun c681 => ?_)
                · exact absurd c681 (by simp; try omega)
                · refine skip (hK625 _ _ (genC [(5, (Vi p)), (6, (Vi x)), (7, (Vi tt)), (17, (Vp g.tb 0)), (19, (Vi ((1 + ((m9 : Nat) : Int))))), (20, (Vi (freeA (⟨l, low, high, max, g.first⟩ : Gp) (hE 0) p))), (21, (Vp w119.heap.size 0)), (24, (Vi (((j : Nat) : Int))))] ⟨g672, g673, g674, g675, g676, g677, g678, g679, trivial⟩ ?_))
                  clear hK625; rintro E ⟨g682, g683, g684, g685, g686, g687, g688, g689, -⟩
                  refine reg ?_
                  refine s_y (y_move (v := (Vi (((j : Nat) : Int)))) g689) rfl ?_
                  refine s_y (y_add rfl rfl (c := ((j : Nat) : Int) + 1) (by omega) rfl) rfl ?_
                  refine s_y (y_assign (v := (Vi (((j : Nat) : Int) + 1))) rfl) rfl ?_
                  have hs19 : hD p (inT 1 x) u9 (m9 + 1) (j + 1) = hS 1 p (inT 1 x) u9 false ((m9 + 1 - j : Nat) - 1) := by rw [hD_lt (by omega)]; congr 1; omega
                  have hni690 : w646.heap.size ∉ bfp g s629 := (fun e => Nat.lt_irrefl _ (nt (Tab.lt (Nx.tab hn631) _ e) (nl hk647.size (Nat.le_refl _))))
                  have hz691 := (nl (nl (nl (nl (nl (nl hz422 hk386.size) hk390.size) hk433.size) hk515.size) (Nx.kp hn631).size) hk647.size)
                  have hf692 := (Tab.kp (Tab.k0 (Tab.k0 (Nx.tab hn631) hk647) hk652) hk656 (fun b hb => (fun e => hni690 (e ▸ hb))) (Nat.ne_of_lt (nt (nt (hf51.lt) hz691) (Nat.le_refl _))))
                  have hb693 := (hk656.get (hk652.get0 (hk647.get0 hb644)) (Nat.ne_of_lt (nt (nt (lt_of_get hb644) hk647.size) (Nat.le_refl _))))
                  have hni694 : w119.heap.size ∉ bfp g s629 := (Nx.notin hn631 hi520 (lt_of_get hi519))
                  have kc695 : Kp (fun k => w20.heap.size ≤ k) w432 w514 := (Kp.trans (Kp.refl _ _) hk515 fun _ _ e => e)
                  have kc696 : Kp (fun k => w20.heap.size ≤ k) w432 w628 := (Kp.trans kc695 (Nx.kp hn631) fun _ _ e => Tab.ge hts9 _ e)
                  have kc697 : Kp (fun k => w20.heap.size ≤ k) w432 w646 := (Kp.then0 kc696 hk647)
                  have kc698 : Kp (fun k => w20.heap.size ≤ k) w432 w650 := (Kp.then0 kc697 hk652)
                  have kc699 : Kp (fun k => w20.heap.size ≤ k) w432 w654 := (Kp.trans kc698 hk656 fun _ _ e => (fun e => nl (nl hz691 (Nat.le_refl _)) (Nat.le_of_eq e.symm)) e)
                  exact s_nil (hK516 ((j + 1), s629) _ _ ⟨⟨g682, g683, g684, g685, g686, g687, g688, rfl, trivial⟩, kc699, (show (j + 1) ≤ m9 + 1 from (by omega)), (show Tab (⟨l, low, high, max, g.first⟩ : Gp) g ((((j + 1) : Nat) : Int) + 100) w20.heap.size (hD p (inT 1 x) u9 (m9 + 1) (j + 1)) s629 w654 from (Tab.mono (Tab.state hf692 hs19) (by omega))), (show Blk w654 w119.heap.size (⟨1, p, (inT 1 x), u9, false, 0⟩ : Binding).cs.toArray 36 from hb693), (show w119.heap.size ∉ bfp g s629 from hni694)⟩ (by show (m9 + 1 - (j + 1)) < (m9 + 1 - j); omega))
          · have hje9 : j = m9 + 1 := by omega
            have hts9 := Tab.state htj9 (hD_ge (p := p) (t := (inT 1 x)) (u := u9) (show ¬ j < m9 + 1 by omega)).symm
            refine exit (hK496 _ _ (genC [(5, (Vi p)), (6, (Vi x)), (7, (Vi tt)), (17, (Vp g.tb 0)), (20, (Vi (freeA (⟨l, low, high, max, g.first⟩ : Gp) (hE 0) p))), (21, (Vp w119.heap.size 0))] ⟨g524, g525, g526, g527, g529, g530, trivial⟩ ?_))
            clear hK496; rintro E ⟨g700, g701, g702, g703, g704, g705, -⟩
            refine seq fun K706 hK706 => ?_
            refine reg ?_
            refine s_y (y_move (v := (Vp g.tb 0)) g703) rfl ?_
            refine s_y (y_fld fo36_0 g705) rfl ?_
            refine s_y (y_load (v := (Vi 1)) rfl (rd_sc sc3 (On.now hi519) rfl)) rfl ?_
            refine s_e (e_call ca17 (args := [(Vp g.tb 0), (Vi 1)]) rfl (drop_x hts9 (by omega) 1 (by omega))) rfl ?_
            rintro v707 w708 ⟨s709, hv710, hn711⟩
            rw [drop_hE] at hv710 hn711; subst hv710
            have ka712 := (Kp.fresh ka521 (Nx.kp hn711) fun _ e => nl hk21.size (Tab.ge hts9 _ e))
            refine s_y (y_move (v := (.tuple #[Vf, (Vi 4)])) rfl) rfl ?_
            refine s_y (y_ext rfl (v := Vf) rfl) rfl ?_
            refine s_y (y_ext rfl (v := (Vi 4)) rfl) rfl ?_
            refine s_y (y_assign (v := Vf) rfl) rfl ?_
            refine s_y (y_assign (v := (Vi 4)) rfl) rfl ?_
            refine s_nil (hK706 _ _ (genC [(5, (Vi p)), (6, (Vi x)), (7, (Vi tt)), (17, (Vp g.tb 0)), (20, (Vi (freeA (⟨l, low, high, max, g.first⟩ : Gp) (hE 0) p))), (30, (Vi 4))] ⟨g700, g701, g702, g703, g704, rfl, trivial⟩ ?_))
            clear hK706; rintro E ⟨g713, g714, g715, g716, g717, g718, -⟩
            refine seq fun K719 hK719 => ?_
            refine reg ?_
            refine s_y (y_move (v := (Vi 4)) g718) rfl ?_
            refine s_y (y_neq rfl rfl) rfl ?_
            refine s_y (y_move (v := Vf) rfl) rfl ?_
            refine s_gy (.yes rfl rfl) (y_move (v := (Vp g.tb 0)) g716) rfl ?_
            refine s_gy (.yes rfl rfl) (y_move (v := (Vi p)) g713) rfl ?_
            refine s_ge (.yes rfl rfl) (e_call ca21 (args := [(Vp g.tb 0), (Vi p)]) rfl (free_x (Nx.tab hn711) (by show max ≤ 65536; omega) p)) rfl ?_
            rintro _ w720 ⟨rfl, hk721⟩
            have ka722 := (Kp.then0 ka712 hk721)
            refine s_gy (.yes rfl rfl) (y_move (v := (Vi (freeA (⟨l, low, high, max, g.first⟩ : Gp) (hE 0) p))) g717) rfl ?_
            refine s_gy (.yes rfl rfl) (y_neq rfl rfl) rfl ?_
            refine s_y (y_pick_f rfl (v := (.bool (decide ((freeA (⟨l, low, high, max, g.first⟩ : Gp) (hE 0) p : Int) ≠ freeA (⟨l, low, high, max, g.first⟩ : Gp) (hE 0) p)))) rfl) rfl ?_
            refine s_y (y_move (v := (.bool (decide ((freeA (⟨l, low, high, max, g.first⟩ : Gp) (hE 0) p : Int) ≠ freeA (⟨l, low, high, max, g.first⟩ : Gp) (hE 0) p)))) rfl) rfl ?_
            by_cases c723 : (freeA (⟨l, low, high, max, g.first⟩ : Gp) (hE 0) p : Int) ≠ freeA (⟨l, low, high, max, g.first⟩ : Gp) (hE 0) p
            · exact absurd rfl c723
            · refine s_gy (.yes rfl (congrArg Value.bool (decide_eq_false c723))) (y_move (v := (Vp g.tb 0)) g716) rfl ?_
              have hf724 := (Tab.k0 (Nx.tab hn711) hk721)
              refine s_ge (.yes rfl (congrArg Value.bool (decide_eq_false c723))) (e_call ca18 (args := [(Vp g.tb 0)]) rfl (len_x hf724)) rfl ?_
              rintro _ w725 ⟨rfl, hk726⟩
              have ka727 := (Kp.then0 ka722 hk726)
              refine s_gy (.yes rfl (congrArg Value.bool (decide_eq_false c723))) (y_neq rfl rfl) rfl ?_
              refine s_y (y_pick_f (congrArg Value.bool (decide_eq_false c723)) (v := Vf) rfl) rfl ?_
              refine s_nil (hK719 _ _ (genC [(5, (Vi p)), (6, (Vi x)), (7, (Vi tt)), (17, (Vp g.tb 0)), (20, (Vi (freeA (⟨l, low, high, max, g.first⟩ : Gp) (hE 0) p))), (140, Vf)] ⟨g713, g714, g715, g716, g717, rfl, trivial⟩ ?_))
              clear hK719; rintro E ⟨g728, g729, g730, g731, g732, g733, -⟩
              refine cond_f g733 ?_
              refine skip (hK401 _ _ (genC [(5, (Vi p)), (6, (Vi x)), (7, (Vi tt)), (17, (Vp g.tb 0)), (20, (Vi (freeA (⟨l, low, high, max, g.first⟩ : Gp) (hE 0) p)))] ⟨g728, g729, g730, g731, g732, trivial⟩ ?_))
              clear hK401; rintro E ⟨g734, g735, g736, g737, g738, -⟩
              refine seq fun K739 hK739 => ?_
              refine reg ?_
              refine s_y (y_move (v := (Vp g.tb 0)) g737) rfl ?_
              refine s_y (y_move (v := (Vi p)) g734) rfl ?_
              refine s_y (y_move (v := (Vi x)) g735) rfl ?_
              refine s_e (e_call ca14 (args := [(.int .u8 1), (Vi x)]) rfl (inT_spec 1 x _)) rfl ?_
              rintro _ w740 ⟨rfl, hk741⟩
              have ka742 := (Kp.then0 ka727 hk741)
              refine s_y (y_move (v := (Vi tt)) g736) rfl ?_
              refine s_e (e_call ca15 (args := [(.int .u8 1), (Vi tt)]) rfl (outT_spec 1 tt _)) rfl ?_
              rintro _ w743 ⟨rfl, hk744⟩
              have ka745 := (Kp.then0 ka742 hk744)
              have hf746 := (Tab.k0 (Tab.k0 (Tab.k0 hf724 hk726) hk741) hk744)
              refine s_e (e_call ca19 (args := [(Vp g.tb 0), (Vi p), (t6 (inT 1 x)), (t4 (outT 1 tt))]) rfl (bind_x hf746 ⟨by omega, by omega⟩ p (inT 1 x) (outT 1 tt) hx htt)) rfl ?_
              rintro v747 w748 ⟨s749, hv750, hn751⟩; rcases bind_h1 (⟨l, low, high, max, g.first⟩ : Gp) p (inT 1 x) (outT 1 tt) with ⟨r752, hr753, hA754⟩ | ⟨hkb9, hA755⟩
              · rw [hA754] at hv750 hn751; subst hv750
                have ka756 := (Kp.fresh ka745 (Nx.kp hn751) fun _ e => nl hk21.size (Tab.ge (Nx.tab hn711) _ e))
                refine s_y (y_move (v := (.tuple #[(bv zeroB), (Vi r752)])) rfl) rfl ?_
                refine s_y (y_ext rfl (v := (bv zeroB)) rfl) rfl ?_
                refine s_y (y_ext rfl (v := (Vi r752)) rfl) rfl ?_
                refine s_e (e_alloc ze36) rfl ?_
                rintro _ w757 ⟨rfl, hb758, hk759⟩
                have ka760 := (Kp.then0 ka756 hk759)
                refine s_e0 (e_storeV (cs' := zeroB.cs.toArray) zeroB.cs rfl (v := (bv zeroB)) rfl rfl sz36 hb758 rfl rfl rfl) ?_
                rintro _ w761 ⟨hb762, hk763⟩
                have hz765 := (nl (nl (nl (nl (nl (nl (nl (nl (nl (nl hz392 hk386.size) hk390.size) hk433.size) hk515.size) (Nx.kp hn711).size) hk721.size) hk726.size) hk741.size) hk744.size) (Nx.kp hn751).size)
                have ka764 := (Kp.fresh ka760 hk763 fun _ e => nl (nl hz765 (Nat.le_refl _)) (Nat.le_of_eq e.symm))
                refine s_y (y_assign (v := (Vi r752)) rfl) rfl ?_
                refine s_nil (hK739 _ _ (genC [(5, (Vi p)), (6, (Vi x)), (17, (Vp g.tb 0)), (20, (Vi (freeA (⟨l, low, high, max, g.first⟩ : Gp) (hE 0) p))), (31, (Vp w748.heap.size 0)), (32, (Vi r752))] ⟨g734, g735, g737, g738, rfl, rfl, trivial⟩ ?_))
                clear hK739; rintro E ⟨g766, g767, g768, g769, g770, g771, -⟩
                refine seq fun K772 hK772 => ?_
                refine seq fun K773 hK773 => ?_
                refine reg ?_
                refine s_y (y_move (v := (Vi r752)) g771) rfl ?_
                refine s_y (y_neq rfl rfl) rfl ?_
                refine s_nil (hK773 _ _ (genC [(5, (Vi p)), (6, (Vi x)), (17, (Vp g.tb 0)), (20, (Vi (freeA (⟨l, low, high, max, g.first⟩ : Gp) (hE 0) p))), (31, (Vp w748.heap.size 0)), (152, (.bool (decide ((r752 : Int) ≠ 0))))] ⟨g766, g767, g768, g769, g770, rfl, trivial⟩ ?_))
                clear hK773; rintro E ⟨g774, g775, g776, g777, g778, g779, -⟩
                refine cond_d g779 (fun c780 => ?_) (fun c780 => ?_)
                · refine seq fun K781 hK781 => ?_
                  refine reg ?_
                  refine s_y (y_move (v := (Vp g.tb 0)) g776) rfl ?_
                  have hni782 : w748.heap.size ∉ bfp g s749 := (fun e => Nat.lt_irrefl _ (nt (Tab.lt (Nx.tab hn751) _ e) (nl (Nat.le_refl _) (Nat.le_refl _))))
                  have hz783 := (nl (nl (nl (nl (nl (nl (nl (nl (nl (nl hz422 hk386.size) hk390.size) hk433.size) hk515.size) (Nx.kp hn711).size) hk721.size) hk726.size) hk741.size) hk744.size) (Nx.kp hn751).size)
                  have hf784 := (Tab.kp (Tab.k0 (Nx.tab hn751) hk759) hk763 (fun b hb => (fun e => hni782 (e ▸ hb))) (Nat.ne_of_lt (nt (nt (hf51.lt) hz783) (Nat.le_refl _))))
                  refine s_e (e_call ca18 (args := [(Vp g.tb 0)]) rfl (len_x hf784)) rfl ?_
                  rintro _ w785 ⟨rfl, hk786⟩
                  have ka787 := (Kp.then0 ka764 hk786)
                  refine s_y (y_eql rfl rfl) rfl ?_
                  refine s_y (y_move (v := Vt) rfl) rfl ?_
                  have hni788 : 0 ∉ bfp g ⟨0, [], fun _ => []⟩ := (Tab.tbn ht9)
                  have hni789 : 0 ∉ bfp g t := (Tab.tbn hts9)
                  have hni790 : 0 ∉ bfp g s709 := (Tab.tbn (Nx.tab hn711))
                  have hf791 := (((((((((((((((((hf51.kp hk53 id).kp hk105 id).kp hk115 id).kp (Nx.kp hn122) hni788).kp hk386 id).kp hk390 (Nat.ne_of_lt (nt (nt (hf51.lt) hz422) (Nat.le_refl _)))).kp hk433 (Nat.not_le.2 (hf51.lt))).kp hk515 (Nat.not_le.2 (hf51.lt))).kp (Nx.kp hn711) hni789).kp hk721 id).kp hk726 id).kp hk741 id).kp hk744 id).kp (Nx.kp hn751) hni790).kp hk759 id).kp hk763 (Nat.ne_of_lt (nt (nt (hf51.lt) hz783) (Nat.le_refl _)))).kp hk786 id)
                  refine s_ge (.yes rfl rfl) (e_call ca22 (args := []) rfl (wakes_spec hf791)) rfl ?_
                  rintro _ w792 ⟨rfl, hk793⟩
                  have ka794 := (Kp.then0 ka787 hk793)
                  refine s_y (y_pick_t rfl (v := Vt) rfl) rfl ?_
                  refine s_y (y_assign (v := Vt) rfl) rfl ?_
                  refine s_nil (hK781 _ _ (genC [(16, Vt)] ⟨rfl, trivial⟩ ?_))
                  clear hK781; rintro E ⟨g795, -⟩
                  refine ret (hret _ _ [Vt] ⟨g795, trivial⟩ ?_)
                  exact ⟨rfl, ka794⟩
                · exact absurd hr753 c780
              · rw [hA755] at hv750 hn751; subst hv750
                have ka796 := (Kp.fresh ka745 (Nx.kp hn751) fun _ e => nl hk21.size (Tab.ge (Nx.tab hn711) _ e))
                refine s_y (y_move (v := (.tuple #[(.agg #[.int .i64 2, .int .i64 p, u8 ((inT 1 x).addr).b0, u8 ((inT 1 x).addr).b1, u8 ((inT 1 x).addr).b2, u8 ((inT 1 x).addr).b3, u8 ((inT 1 x).addr).b4, u8 ((inT 1 x).addr).b5, u8 ((inT 1 x).addr).b6, u8 ((inT 1 x).addr).b7, u8 ((inT 1 x).addr).b8, u8 ((inT 1 x).addr).b9, u8 ((inT 1 x).addr).b10, u8 ((inT 1 x).addr).b11, u8 ((inT 1 x).addr).b12, u8 ((inT 1 x).addr).b13, u8 ((inT 1 x).addr).b14, u8 ((inT 1 x).addr).b15, .int .i64 ((inT 1 x).port), u8 ((outT 1 tt).addr).a, u8 ((outT 1 tt).addr).b, u8 ((outT 1 tt).addr).c, u8 ((outT 1 tt).addr).d, .int .i64 ((outT 1 tt).port), .bool true, .int .i64 0]), (Vi 0)])) rfl) rfl ?_
                refine s_y (y_ext rfl (v := (.agg #[.int .i64 2, .int .i64 p, u8 ((inT 1 x).addr).b0, u8 ((inT 1 x).addr).b1, u8 ((inT 1 x).addr).b2, u8 ((inT 1 x).addr).b3, u8 ((inT 1 x).addr).b4, u8 ((inT 1 x).addr).b5, u8 ((inT 1 x).addr).b6, u8 ((inT 1 x).addr).b7, u8 ((inT 1 x).addr).b8, u8 ((inT 1 x).addr).b9, u8 ((inT 1 x).addr).b10, u8 ((inT 1 x).addr).b11, u8 ((inT 1 x).addr).b12, u8 ((inT 1 x).addr).b13, u8 ((inT 1 x).addr).b14, u8 ((inT 1 x).addr).b15, .int .i64 ((inT 1 x).port), u8 ((outT 1 tt).addr).a, u8 ((outT 1 tt).addr).b, u8 ((outT 1 tt).addr).c, u8 ((outT 1 tt).addr).d, .int .i64 ((outT 1 tt).port), .bool true, .int .i64 0])) rfl) rfl ?_
                refine s_y (y_ext rfl (v := (Vi 0)) rfl) rfl ?_
                refine s_e (e_alloc ze36) rfl ?_
                rintro _ w797 ⟨rfl, hb798, hk799⟩
                have ka800 := (Kp.then0 ka796 hk799)
                refine s_e0 (e_storeV (cs' := #[(Vi 2), (Vi p), (u8 ((inT 1 x).addr).b0), (u8 ((inT 1 x).addr).b1), (u8 ((inT 1 x).addr).b2), (u8 ((inT 1 x).addr).b3), (u8 ((inT 1 x).addr).b4), (u8 ((inT 1 x).addr).b5), (u8 ((inT 1 x).addr).b6), (u8 ((inT 1 x).addr).b7), (u8 ((inT 1 x).addr).b8), (u8 ((inT 1 x).addr).b9), (u8 ((inT 1 x).addr).b10), (u8 ((inT 1 x).addr).b11), (u8 ((inT 1 x).addr).b12), (u8 ((inT 1 x).addr).b13), (u8 ((inT 1 x).addr).b14), (u8 ((inT 1 x).addr).b15), (Vi ((inT 1 x).port)), (u8 ((outT 1 tt).addr).a), (u8 ((outT 1 tt).addr).b), (u8 ((outT 1 tt).addr).c), (u8 ((outT 1 tt).addr).d), (Vi ((outT 1 tt).port)), Vt, (Vi 0)]) [(Vi 2), (Vi p), (u8 ((inT 1 x).addr).b0), (u8 ((inT 1 x).addr).b1), (u8 ((inT 1 x).addr).b2), (u8 ((inT 1 x).addr).b3), (u8 ((inT 1 x).addr).b4), (u8 ((inT 1 x).addr).b5), (u8 ((inT 1 x).addr).b6), (u8 ((inT 1 x).addr).b7), (u8 ((inT 1 x).addr).b8), (u8 ((inT 1 x).addr).b9), (u8 ((inT 1 x).addr).b10), (u8 ((inT 1 x).addr).b11), (u8 ((inT 1 x).addr).b12), (u8 ((inT 1 x).addr).b13), (u8 ((inT 1 x).addr).b14), (u8 ((inT 1 x).addr).b15), (Vi ((inT 1 x).port)), (u8 ((outT 1 tt).addr).a), (u8 ((outT 1 tt).addr).b), (u8 ((outT 1 tt).addr).c), (u8 ((outT 1 tt).addr).d), (Vi ((outT 1 tt).port)), Vt, (Vi 0)] rfl (v := (.agg #[.int .i64 2, .int .i64 p, u8 ((inT 1 x).addr).b0, u8 ((inT 1 x).addr).b1, u8 ((inT 1 x).addr).b2, u8 ((inT 1 x).addr).b3, u8 ((inT 1 x).addr).b4, u8 ((inT 1 x).addr).b5, u8 ((inT 1 x).addr).b6, u8 ((inT 1 x).addr).b7, u8 ((inT 1 x).addr).b8, u8 ((inT 1 x).addr).b9, u8 ((inT 1 x).addr).b10, u8 ((inT 1 x).addr).b11, u8 ((inT 1 x).addr).b12, u8 ((inT 1 x).addr).b13, u8 ((inT 1 x).addr).b14, u8 ((inT 1 x).addr).b15, .int .i64 ((inT 1 x).port), u8 ((outT 1 tt).addr).a, u8 ((outT 1 tt).addr).b, u8 ((outT 1 tt).addr).c, u8 ((outT 1 tt).addr).d, .int .i64 ((outT 1 tt).port), .bool true, .int .i64 0])) rfl rfl sz36 hb798 rfl rfl rfl) ?_
                rintro _ w801 ⟨hb802, hk803⟩
                have hz805 := (nl (nl (nl (nl (nl (nl (nl (nl (nl (nl hz392 hk386.size) hk390.size) hk433.size) hk515.size) (Nx.kp hn711).size) hk721.size) hk726.size) hk741.size) hk744.size) (Nx.kp hn751).size)
                have ka804 := (Kp.fresh ka800 hk803 fun _ e => nl (nl hz805 (Nat.le_refl _)) (Nat.le_of_eq e.symm))
                refine s_y (y_assign (v := (Vi 0)) rfl) rfl ?_
                refine s_nil (hK739 _ _ (genC [(5, (Vi p)), (6, (Vi x)), (17, (Vp g.tb 0)), (20, (Vi (freeA (⟨l, low, high, max, g.first⟩ : Gp) (hE 0) p))), (31, (Vp w748.heap.size 0)), (32, (Vi 0))] ⟨g734, g735, g737, g738, rfl, rfl, trivial⟩ ?_))
                clear hK739; rintro E ⟨g806, g807, g808, g809, g810, g811, -⟩
                refine seq fun K812 hK812 => ?_
                refine seq fun K813 hK813 => ?_
                refine reg ?_
                refine s_y (y_move (v := (Vi 0)) g811) rfl ?_
                refine s_y (y_neq rfl rfl) rfl ?_
                refine s_nil (hK813 _ _ (genC [(5, (Vi p)), (6, (Vi x)), (17, (Vp g.tb 0)), (20, (Vi (freeA (⟨l, low, high, max, g.first⟩ : Gp) (hE 0) p))), (31, (Vp w748.heap.size 0)), (152, Vf)] ⟨g806, g807, g808, g809, g810, rfl, trivial⟩ ?_))
                clear hK813; rintro E ⟨g814, g815, g816, g817, g818, g819, -⟩
                refine cond_f g819 ?_
                refine skip (hK812 _ _ (genC [(5, (Vi p)), (6, (Vi x)), (17, (Vp g.tb 0)), (20, (Vi (freeA (⟨l, low, high, max, g.first⟩ : Gp) (hE 0) p))), (31, (Vp w748.heap.size 0))] ⟨g814, g815, g816, g817, g818, trivial⟩ ?_))
                clear hK812; rintro E ⟨g820, g821, g822, g823, g824, -⟩
                refine seq fun K825 hK825 => ?_
                refine reg ?_
                refine s_y (y_move (v := (Vp g.tb 0)) g822) rfl ?_
                refine s_y (y_fld fo36_0 g824) rfl ?_
                refine s_y (y_load (v := (Vi 2)) rfl (rd_sc sc3 (On.now hb802) rfl)) rfl ?_
                have hni826 : w748.heap.size ∉ bfp g s749 := (fun e => Nat.lt_irrefl _ (nt (Tab.lt (Nx.tab hn751) _ e) (nl (Nat.le_refl _) (Nat.le_refl _))))
                have hz827 := (nl (nl (nl (nl (nl (nl (nl (nl (nl (nl hz422 hk386.size) hk390.size) hk433.size) hk515.size) (Nx.kp hn711).size) hk721.size) hk726.size) hk741.size) hk744.size) (Nx.kp hn751).size)
                have hf828 := (Tab.kp (Tab.k0 (Nx.tab hn751) hk799) hk803 (fun b hb => (fun e => hni826 (e ▸ hb))) (Nat.ne_of_lt (nt (nt (hf51.lt) hz827) (Nat.le_refl _))))
                refine s_e (e_call ca16 (args := [(Vp g.tb 0), (Vi 2)]) rfl (hold_x hf828 (by omega) 2 (by omega))) rfl ?_
                rintro v829 w830 ⟨s831, hv832, hn833⟩
                rw [hold_hS] at hv832 hn833; subst hv832
                have ka834 := (Kp.fresh ka804 (Nx.kp hn833) fun _ e => nl hk21.size (Tab.ge (Nx.tab hn751) _ e))
                refine s_nil (hK825 _ _ (genC [(5, (Vi p)), (6, (Vi x)), (17, (Vp g.tb 0)), (20, (Vi (freeA (⟨l, low, high, max, g.first⟩ : Gp) (hE 0) p))), (31, (Vp w748.heap.size 0))] ⟨g820, g821, g822, g823, g824, trivial⟩ ?_))
                clear hK825; rintro E ⟨g835, g836, g837, g838, g839, -⟩
                refine seq fun K840 hK840 => ?_
                refine reg ?_
                refine s_y (y_move (v := (Vp g.tb 0)) g837) rfl ?_
                refine s_y (y_fld fo36_0 g839) rfl ?_
                have hb841 := ((Nx.kp hn833).get hb802 hni826)
                refine s_y (y_load (v := (Vi 2)) rfl (rd_sc sc3 (On.now hb841) rfl)) rfl ?_
                refine s_e (e_call ca16 (args := [(Vp g.tb 0), (Vi 2)]) rfl (hold_x (Nx.tab hn833) (by omega) 2 (by omega))) rfl ?_
                rintro v842 w843 ⟨s844, hv845, hn846⟩
                rw [hold_hS] at hv845 hn846; subst hv845
                have ka847 := (Kp.fresh ka834 (Nx.kp hn846) fun _ e => nl hk21.size (Tab.ge (Nx.tab hn833) _ e))
                refine s_nil (hK840 _ _ (genC [(5, (Vi p)), (6, (Vi x)), (17, (Vp g.tb 0)), (20, (Vi (freeA (⟨l, low, high, max, g.first⟩ : Gp) (hE 0) p))), (31, (Vp w748.heap.size 0))] ⟨g835, g836, g837, g838, g839, trivial⟩ ?_))
                clear hK840; rintro E ⟨g848, g849, g850, g851, g852, -⟩
                refine seq fun K853 hK853 => ?_
                refine reg ?_
                refine s_y (y_move (v := (Vp g.tb 0)) g850) rfl ?_
                refine s_y (y_fld fo36_0 g852) rfl ?_
                have hni854 : w748.heap.size ∉ bfp g s831 := (Nx.notin hn833 hni826 (lt_of_get hb802))
                have hb855 := ((Nx.kp hn846).get hb841 hni854)
                refine s_y (y_load (v := (Vi 2)) rfl (rd_sc sc3 (On.now hb855) rfl)) rfl ?_
                refine s_e (e_call ca17 (args := [(Vp g.tb 0), (Vi 2)]) rfl (drop_x (Nx.tab hn846) (by omega) 2 (by omega))) rfl ?_
                rintro v856 w857 ⟨s858, hv859, hn860⟩
                rw [dropA_stay _ _ _ _ _ (by decide) (Or.inl rfl)] at hv859 hn860; subst hv859
                have ka861 := (Kp.fresh ka847 (Nx.kp hn860) fun _ e => nl hk21.size (Tab.ge (Nx.tab hn846) _ e))
                refine s_y (y_move (v := (.tuple #[Vf, (Vi 0)])) rfl) rfl ?_
                refine s_y (y_ext rfl (v := Vf) rfl) rfl ?_
                refine s_y (y_ext rfl (v := (Vi 0)) rfl) rfl ?_
                refine s_y (y_assign (v := Vf) rfl) rfl ?_
                refine s_y (y_assign (v := (Vi 0)) rfl) rfl ?_
                refine s_nil (hK853 _ _ (genC [(5, (Vi p)), (6, (Vi x)), (17, (Vp g.tb 0)), (20, (Vi (freeA (⟨l, low, high, max, g.first⟩ : Gp) (hE 0) p))), (31, (Vp w748.heap.size 0)), (33, Vf), (34, (Vi 0))] ⟨g848, g849, g850, g851, g852, rfl, rfl, trivial⟩ ?_))
                clear hK853; rintro E ⟨g862, g863, g864, g865, g866, g867, g868, -⟩
                refine seq fun K869 hK869 => ?_
                refine reg ?_
                refine s_y (y_move (v := (Vp g.tb 0)) g864) rfl ?_
                refine s_y (y_move (v := (Vi p)) g862) rfl ?_
                refine s_y (y_move (v := (Vi x)) g863) rfl ?_
                refine s_e (e_call ca14 (args := [(.int .u8 1), (Vi x)]) rfl (inT_spec 1 x _)) rfl ?_
                rintro _ w870 ⟨rfl, hk871⟩
                have ka872 := (Kp.then0 ka861 hk871)
                have hf873 := (Tab.k0 (Nx.tab hn860) hk871)
                refine s_e (e_call ca20 (args := [(Vp g.tb 0), (Vi p), (t6 (inT 1 x))]) rfl (unbind_x hf873 p (inT 1 x) hx)) rfl ?_
                rintro v874 w875 ⟨s876, hv877, hn878⟩
                rw [unbind_hS _ _ _ _ _ hkb9] at hv877 hn878; subst hv877
                have ka879 := (Kp.fresh ka872 (Nx.kp hn878) fun _ e => nl hk21.size (Tab.ge (Nx.tab hn860) _ e))
                refine s_y (y_move (v := (.tuple #[(.agg #[.int .i64 2, .int .i64 p, u8 ((inT 1 x).addr).b0, u8 ((inT 1 x).addr).b1, u8 ((inT 1 x).addr).b2, u8 ((inT 1 x).addr).b3, u8 ((inT 1 x).addr).b4, u8 ((inT 1 x).addr).b5, u8 ((inT 1 x).addr).b6, u8 ((inT 1 x).addr).b7, u8 ((inT 1 x).addr).b8, u8 ((inT 1 x).addr).b9, u8 ((inT 1 x).addr).b10, u8 ((inT 1 x).addr).b11, u8 ((inT 1 x).addr).b12, u8 ((inT 1 x).addr).b13, u8 ((inT 1 x).addr).b14, u8 ((inT 1 x).addr).b15, .int .i64 ((inT 1 x).port), u8 ((outT 1 tt).addr).a, u8 ((outT 1 tt).addr).b, u8 ((outT 1 tt).addr).c, u8 ((outT 1 tt).addr).d, .int .i64 ((outT 1 tt).port), .bool true, .int .i64 1]), (Vi 0)])) rfl) rfl ?_
                refine s_y (y_ext rfl (v := (.agg #[.int .i64 2, .int .i64 p, u8 ((inT 1 x).addr).b0, u8 ((inT 1 x).addr).b1, u8 ((inT 1 x).addr).b2, u8 ((inT 1 x).addr).b3, u8 ((inT 1 x).addr).b4, u8 ((inT 1 x).addr).b5, u8 ((inT 1 x).addr).b6, u8 ((inT 1 x).addr).b7, u8 ((inT 1 x).addr).b8, u8 ((inT 1 x).addr).b9, u8 ((inT 1 x).addr).b10, u8 ((inT 1 x).addr).b11, u8 ((inT 1 x).addr).b12, u8 ((inT 1 x).addr).b13, u8 ((inT 1 x).addr).b14, u8 ((inT 1 x).addr).b15, .int .i64 ((inT 1 x).port), u8 ((outT 1 tt).addr).a, u8 ((outT 1 tt).addr).b, u8 ((outT 1 tt).addr).c, u8 ((outT 1 tt).addr).d, .int .i64 ((outT 1 tt).port), .bool true, .int .i64 1])) rfl) rfl ?_
                refine s_y (y_ext rfl (v := (Vi 0)) rfl) rfl ?_
                refine s_e (e_alloc ze36) rfl ?_
                rintro _ w880 ⟨rfl, hb881, hk882⟩
                have ka883 := (Kp.then0 ka879 hk882)
                refine s_e0 (e_storeV (cs' := #[(Vi 2), (Vi p), (u8 ((inT 1 x).addr).b0), (u8 ((inT 1 x).addr).b1), (u8 ((inT 1 x).addr).b2), (u8 ((inT 1 x).addr).b3), (u8 ((inT 1 x).addr).b4), (u8 ((inT 1 x).addr).b5), (u8 ((inT 1 x).addr).b6), (u8 ((inT 1 x).addr).b7), (u8 ((inT 1 x).addr).b8), (u8 ((inT 1 x).addr).b9), (u8 ((inT 1 x).addr).b10), (u8 ((inT 1 x).addr).b11), (u8 ((inT 1 x).addr).b12), (u8 ((inT 1 x).addr).b13), (u8 ((inT 1 x).addr).b14), (u8 ((inT 1 x).addr).b15), (Vi ((inT 1 x).port)), (u8 ((outT 1 tt).addr).a), (u8 ((outT 1 tt).addr).b), (u8 ((outT 1 tt).addr).c), (u8 ((outT 1 tt).addr).d), (Vi ((outT 1 tt).port)), Vt, (Vi 1)]) [(Vi 2), (Vi p), (u8 ((inT 1 x).addr).b0), (u8 ((inT 1 x).addr).b1), (u8 ((inT 1 x).addr).b2), (u8 ((inT 1 x).addr).b3), (u8 ((inT 1 x).addr).b4), (u8 ((inT 1 x).addr).b5), (u8 ((inT 1 x).addr).b6), (u8 ((inT 1 x).addr).b7), (u8 ((inT 1 x).addr).b8), (u8 ((inT 1 x).addr).b9), (u8 ((inT 1 x).addr).b10), (u8 ((inT 1 x).addr).b11), (u8 ((inT 1 x).addr).b12), (u8 ((inT 1 x).addr).b13), (u8 ((inT 1 x).addr).b14), (u8 ((inT 1 x).addr).b15), (Vi ((inT 1 x).port)), (u8 ((outT 1 tt).addr).a), (u8 ((outT 1 tt).addr).b), (u8 ((outT 1 tt).addr).c), (u8 ((outT 1 tt).addr).d), (Vi ((outT 1 tt).port)), Vt, (Vi 1)] rfl (v := (.agg #[.int .i64 2, .int .i64 p, u8 ((inT 1 x).addr).b0, u8 ((inT 1 x).addr).b1, u8 ((inT 1 x).addr).b2, u8 ((inT 1 x).addr).b3, u8 ((inT 1 x).addr).b4, u8 ((inT 1 x).addr).b5, u8 ((inT 1 x).addr).b6, u8 ((inT 1 x).addr).b7, u8 ((inT 1 x).addr).b8, u8 ((inT 1 x).addr).b9, u8 ((inT 1 x).addr).b10, u8 ((inT 1 x).addr).b11, u8 ((inT 1 x).addr).b12, u8 ((inT 1 x).addr).b13, u8 ((inT 1 x).addr).b14, u8 ((inT 1 x).addr).b15, .int .i64 ((inT 1 x).port), u8 ((outT 1 tt).addr).a, u8 ((outT 1 tt).addr).b, u8 ((outT 1 tt).addr).c, u8 ((outT 1 tt).addr).d, .int .i64 ((outT 1 tt).port), .bool true, .int .i64 1])) rfl rfl sz36 hb881 rfl rfl rfl) ?_
                rintro _ w884 ⟨hb885, hk886⟩
                have hz888 := (nl (nl (nl (nl (nl (nl (nl hz805 hk799.size) hk803.size) (Nx.kp hn833).size) (Nx.kp hn846).size) (Nx.kp hn860).size) hk871.size) (Nx.kp hn878).size)
                have ka887 := (Kp.fresh ka883 hk886 fun _ e => nl (nl hz888 (Nat.le_refl _)) (Nat.le_of_eq e.symm))
                refine s_y (y_assign (v := (Vi 0)) rfl) rfl ?_
                refine s_nil (hK869 _ _ (genC [(5, (Vi p)), (6, (Vi x)), (17, (Vp g.tb 0)), (20, (Vi (freeA (⟨l, low, high, max, g.first⟩ : Gp) (hE 0) p))), (31, (Vp w748.heap.size 0)), (33, Vf), (34, (Vi 0)), (35, (Vp w875.heap.size 0)), (36, (Vi 0))] ⟨g862, g863, g864, g865, g866, g867, g868, rfl, rfl, trivial⟩ ?_))
                clear hK869; rintro E ⟨g889, g890, g891, g892, g893, g894, g895, g896, g897, -⟩
                refine seq fun K898 hK898 => ?_
                refine reg ?_
                refine s_y (y_move (v := (Vp g.tb 0)) g891) rfl ?_
                refine s_y (y_move (v := (Vi p)) g889) rfl ?_
                refine s_y (y_move (v := (Vi x)) g890) rfl ?_
                refine s_e (e_call ca14 (args := [(.int .u8 1), (Vi x)]) rfl (inT_spec 1 x _)) rfl ?_
                rintro _ w899 ⟨rfl, hk900⟩
                have ka901 := (Kp.then0 ka887 hk900)
                have hni902 : w875.heap.size ∉ bfp g s876 := (fun e => Nat.lt_irrefl _ (nt (Tab.lt (Nx.tab hn878) _ e) (nl (Nat.le_refl _) (Nat.le_refl _))))
                have hz903 := (nl (nl (nl (nl (nl (nl (nl hz827 hk799.size) hk803.size) (Nx.kp hn833).size) (Nx.kp hn846).size) (Nx.kp hn860).size) hk871.size) (Nx.kp hn878).size)
                have hf904 := (Tab.k0 (Tab.kp (Tab.k0 (Nx.tab hn878) hk882) hk886 (fun b hb => (fun e => hni902 (e ▸ hb))) (Nat.ne_of_lt (nt (nt (hf51.lt) hz903) (Nat.le_refl _)))) hk900)
                refine s_e (e_call ca20 (args := [(Vp g.tb 0), (Vi p), (t6 (inT 1 x))]) rfl (unbind_x hf904 p (inT 1 x) hx)) rfl ?_
                rintro v905 w906 ⟨s907, hv908, hn909⟩
                rw [unbind_hE _ _ _ hkb9] at hv908 hn909; subst hv908
                have ka910 := (Kp.fresh ka901 (Nx.kp hn909) fun _ e => nl hk21.size (Tab.ge (Nx.tab hn878) _ e))
                refine s_y (y_move (v := (.tuple #[(bv zeroB), (Vi 4)])) rfl) rfl ?_
                refine s_y (y_ext rfl (v := (bv zeroB)) rfl) rfl ?_
                refine s_y (y_ext rfl (v := (Vi 4)) rfl) rfl ?_
                refine s_e (e_alloc ze36) rfl ?_
                rintro _ w911 ⟨rfl, hb912, hk913⟩
                have ka914 := (Kp.then0 ka910 hk913)
                refine s_e0 (e_storeV (cs' := zeroB.cs.toArray) zeroB.cs rfl (v := (bv zeroB)) rfl rfl sz36 hb912 rfl rfl rfl) ?_
                rintro _ w915 ⟨hb916, hk917⟩
                have hz919 := (nl (nl (nl (nl hz888 hk882.size) hk886.size) hk900.size) (Nx.kp hn909).size)
                have ka918 := (Kp.fresh ka914 hk917 fun _ e => nl (nl hz919 (Nat.le_refl _)) (Nat.le_of_eq e.symm))
                refine s_y (y_assign (v := (Vi 4)) rfl) rfl ?_
                refine s_nil (hK898 _ _ (genC [(5, (Vi p)), (17, (Vp g.tb 0)), (20, (Vi (freeA (⟨l, low, high, max, g.first⟩ : Gp) (hE 0) p))), (31, (Vp w748.heap.size 0)), (33, Vf), (34, (Vi 0)), (35, (Vp w875.heap.size 0)), (36, (Vi 0)), (38, (Vi 4))] ⟨g889, g891, g892, g893, g894, g895, g896, g897, rfl, trivial⟩ ?_))
                clear hK898; rintro E ⟨g920, g921, g922, g923, g924, g925, g926, g927, g928, -⟩
                refine seq fun K929 hK929 => ?_
                refine reg ?_
                refine s_y (y_move (v := Vf) g924) rfl ?_
                refine s_y (y_not rfl) rfl ?_
                refine s_y (y_move (v := Vt) rfl) rfl ?_
                refine s_gy (.yes rfl rfl) (y_move (v := (Vi 0)) g925) rfl ?_
                refine s_gy (.yes rfl rfl) (y_eql rfl rfl) rfl ?_
                refine s_y (y_pick_t rfl (v := Vt) rfl) rfl ?_
                refine s_y (y_move (v := Vt) rfl) rfl ?_
                refine s_gy (.yes rfl rfl) (y_move (v := (Vi 0)) g927) rfl ?_
                refine s_gy (.yes rfl rfl) (y_eql rfl rfl) rfl ?_
                refine s_y (y_pick_t rfl (v := Vt) rfl) rfl ?_
                refine s_y (y_move (v := Vt) rfl) rfl ?_
                refine s_gy (.yes rfl rfl) (y_fld fo36_0 g926) rfl ?_
                have hb930 := (hk917.get (hk913.get0 ((Nx.kp hn909).get (hk900.get0 hb885) hni902)) (Nat.ne_of_lt (nt (nt (lt_of_get hb885) (nl hk900.size (Nx.kp hn909).size)) (Nat.le_refl _))))
                refine s_gy (.yes rfl rfl) (y_load (v := (Vi 2)) rfl (rd_sc sc3 (On.now hb930) rfl)) rfl ?_
                refine s_gy (.yes rfl rfl) (y_fld fo36_0 g923) rfl ?_
                have hni931 : w748.heap.size ∉ bfp g s844 := (Nx.notin hn846 hni854 (lt_of_get hb841))
                have hni932 : w748.heap.size ∉ bfp g s858 := (Nx.notin hn860 hni931 (lt_of_get hb855))
                have hz933 := (nl (nl (Nx.kp hn860).size hk871.size) (Nx.kp hn878).size)
                have hni934 : w748.heap.size ∉ bfp g s876 := (Nx.notin hn878 hni932 (nt (lt_of_get hb855) (nl (Nx.kp hn860).size hk871.size)))
                have hz935 := (nl (nl (nl (nl hz933 hk882.size) hk886.size) hk900.size) (Nx.kp hn909).size)
                have hb936 := (hk917.get (hk913.get0 ((Nx.kp hn909).get (hk900.get0 (hk886.get (hk882.get0 ((Nx.kp hn878).get (hk871.get0 ((Nx.kp hn860).get hb855 hni931)) hni932)) (Nat.ne_of_lt (nt (nt (lt_of_get hb855) hz933) (Nat.le_refl _))))) hni934)) (Nat.ne_of_lt (nt (nt (lt_of_get hb855) hz935) (Nat.le_refl _))))
                refine s_gy (.yes rfl rfl) (y_load (v := (Vi 2)) rfl (rd_sc sc3 (On.now hb936) rfl)) rfl ?_
                refine s_gy (.yes rfl rfl) (y_eql rfl rfl) rfl ?_
                refine s_y (y_pick_t rfl (v := Vt) rfl) rfl ?_
                refine s_y (y_move (v := Vt) rfl) rfl ?_
                refine s_gy (.yes rfl rfl) (y_fld fo36_5 g926) rfl ?_
                refine s_gy (.yes rfl rfl) (y_load (v := (Vi 1)) rfl (rd_sc sc3 (On.now hb930) rfl)) rfl ?_
                refine s_gy (.yes rfl rfl) (y_eql rfl rfl) rfl ?_
                refine s_y (y_pick_t rfl (v := Vt) rfl) rfl ?_
                refine s_y (y_move (v := Vt) rfl) rfl ?_
                refine s_gy (.yes rfl rfl) (y_move (v := (Vi 4)) g928) rfl ?_
                refine s_gy (.yes rfl rfl) (y_eql rfl rfl) rfl ?_
                refine s_y (y_pick_t rfl (v := Vt) rfl) rfl ?_
                refine s_y (y_move (v := Vt) rfl) rfl ?_
                refine s_gy (.yes rfl rfl) (y_move (v := (Vp g.tb 0)) g921) rfl ?_
                have hni937 : w906.heap.size ∉ bfp g s907 := (fun e => Nat.lt_irrefl _ (nt (Tab.lt (Nx.tab hn909) _ e) (nl (Nat.le_refl _) (Nat.le_refl _))))
                have hz938 := (nl (nl (nl (nl hz903 hk882.size) hk886.size) hk900.size) (Nx.kp hn909).size)
                have hf939 := (Tab.kp (Tab.k0 (Nx.tab hn909) hk913) hk917 (fun b hb => (fun e => hni937 (e ▸ hb))) (Nat.ne_of_lt (nt (nt (hf51.lt) hz938) (Nat.le_refl _))))
                refine s_ge (.yes rfl rfl) (e_call ca18 (args := [(Vp g.tb 0)]) rfl (len_x hf939)) rfl ?_
                rintro _ w940 ⟨rfl, hk941⟩
                have ka942 := (Kp.then0 ka918 hk941)
                refine s_gy (.yes rfl rfl) (y_eql rfl rfl) rfl ?_
                refine s_y (y_pick_t rfl (v := Vt) rfl) rfl ?_
                refine s_y (y_move (v := Vt) rfl) rfl ?_
                refine s_gy (.yes rfl rfl) (y_move (v := (Vp g.tb 0)) g921) rfl ?_
                refine s_gy (.yes rfl rfl) (y_move (v := (Vi p)) g920) rfl ?_
                have hf943 := (Tab.k0 hf939 hk941)
                refine s_ge (.yes rfl rfl) (e_call ca21 (args := [(Vp g.tb 0), (Vi p)]) rfl (free_x hf943 (by show max ≤ 65536; omega) p)) rfl ?_
                rintro _ w944 ⟨rfl, hk945⟩
                have ka946 := (Kp.then0 ka942 hk945)
                refine s_gy (.yes rfl rfl) (y_move (v := (Vi (freeA (⟨l, low, high, max, g.first⟩ : Gp) (hE 0) p))) g922) rfl ?_
                refine s_gy (.yes rfl rfl) (y_eql rfl rfl) rfl ?_
                refine s_y (y_pick_t rfl (v := (.bool (decide ((freeA (⟨l, low, high, max, g.first⟩ : Gp) (hE 0) p : Int) = freeA (⟨l, low, high, max, g.first⟩ : Gp) (hE 0) p)))) rfl) rfl ?_
                refine s_y (y_move (v := (.bool (decide ((freeA (⟨l, low, high, max, g.first⟩ : Gp) (hE 0) p : Int) = freeA (⟨l, low, high, max, g.first⟩ : Gp) (hE 0) p)))) rfl) rfl ?_
                by_cases c947 : (freeA (⟨l, low, high, max, g.first⟩ : Gp) (hE 0) p : Int) = freeA (⟨l, low, high, max, g.first⟩ : Gp) (hE 0) p
                · have hni948 : 0 ∉ bfp g ⟨0, [], fun _ => []⟩ := (Tab.tbn ht9)
                  have hni949 : 0 ∉ bfp g t := (Tab.tbn hts9)
                  have hni950 : 0 ∉ bfp g s709 := (Tab.tbn (Nx.tab hn711))
                  have hni951 : 0 ∉ bfp g s749 := (Tab.tbn (Nx.tab hn751))
                  have hni952 : 0 ∉ bfp g s831 := (Tab.tbn (Nx.tab hn833))
                  have hni953 : 0 ∉ bfp g s844 := (Tab.tbn (Nx.tab hn846))
                  have hni954 : 0 ∉ bfp g s858 := (Tab.tbn (Nx.tab hn860))
                  have hni955 : 0 ∉ bfp g s876 := (Tab.tbn (Nx.tab hn878))
                  have hf956 := (((((((((((((((((((((((((((((hf51.kp hk53 id).kp hk105 id).kp hk115 id).kp (Nx.kp hn122) hni948).kp hk386 id).kp hk390 (Nat.ne_of_lt (nt (nt (hf51.lt) hz422) (Nat.le_refl _)))).kp hk433 (Nat.not_le.2 (hf51.lt))).kp hk515 (Nat.not_le.2 (hf51.lt))).kp (Nx.kp hn711) hni949).kp hk721 id).kp hk726 id).kp hk741 id).kp hk744 id).kp (Nx.kp hn751) hni950).kp hk799 id).kp hk803 (Nat.ne_of_lt (nt (nt (hf51.lt) hz827) (Nat.le_refl _)))).kp (Nx.kp hn833) hni951).kp (Nx.kp hn846) hni952).kp (Nx.kp hn860) hni953).kp hk871 id).kp (Nx.kp hn878) hni954).kp hk882 id).kp hk886 (Nat.ne_of_lt (nt (nt (hf51.lt) hz903) (Nat.le_refl _)))).kp hk900 id).kp (Nx.kp hn909) hni955).kp hk913 id).kp hk917 (Nat.ne_of_lt (nt (nt (hf51.lt) hz938) (Nat.le_refl _)))).kp hk941 id).kp hk945 id)
                  refine s_ge (.yes rfl (congrArg Value.bool (decide_eq_true c947))) (e_call ca22 (args := []) rfl (wakes_spec hf956)) rfl ?_
                  rintro _ w957 ⟨rfl, hk958⟩
                  have ka959 := (Kp.then0 ka946 hk958)
                  refine s_y (y_pick_t (congrArg Value.bool (decide_eq_true c947)) (v := Vt) rfl) rfl ?_
                  refine s_y (y_assign (v := Vt) rfl) rfl ?_
                  refine s_nil (hK929 _ _ (genC [(16, Vt)] ⟨rfl, trivial⟩ ?_))
                  clear hK929; rintro E ⟨g960, -⟩
                  refine ret (hret _ _ [Vt] ⟨g960, trivial⟩ ?_)
                  exact ⟨rfl, ka959⟩
                · exact absurd rfl c947

end Go.Proofs.YtdcnblafepgheaaDoor
