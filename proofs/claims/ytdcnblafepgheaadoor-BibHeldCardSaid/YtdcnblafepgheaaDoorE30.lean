/-
  Written by a program (wip/walks).
-/
import Derived.Test.YtdcnblafepgheaaDoorE29
import Derived.Test.YtdcnblafepgheaaDoorV12
namespace Go.Proofs.YtdcnblafepgheaaDoor
open Go Go.V
set_option maxRecDepth 100000
theorem poolnew_e {p : Option Addr} {c : Nat} {low high : Int} {w : World} : Rets Tryd.prog 45 #[(.slice p 0 c), (.int .i64 low), (.int .i64 high)] w fun v w' => v = .tuple #[.pointer none, .int .i64 1] ∧ K0 w w' := by
  refine enter Tryd.func45 rfl Tryd.ntmps45 rfl fun Q hret hend E hE => ?_
  have g1 : E 0 = (.slice p 0 c) := hE 0
  have g2 : E 1 = (Vi low) := hE 1
  have g3 : E 2 = (Vi high) := hE 2
  clear hE
  refine seq fun K4 hK4 => ?_
  refine reg ?_
  refine s_y (y_assign (v := (.pointer none)) rfl) rfl ?_
  refine s_y (y_assign (v := (Vi 0)) rfl) rfl ?_
  refine s_nil (hK4 _ _ (genC [(0, (.slice p 0 c)), (1, (Vi low)), (2, (Vi high))] ⟨g1, g2, g3, trivial⟩ ?_))
  clear hK4; rintro E ⟨g5, g6, g7, -⟩
  refine seq fun K8 hK8 => ?_
  refine seq fun K9 hK9 => ?_
  refine reg ?_
  refine s_y (y_move (v := (.slice p 0 c)) g5) rfl ?_
  refine s_y (y_lenS so28 rfl) rfl ?_
  refine s_y (y_lss rfl rfl) rfl ?_
  refine s_y (y_move (v := (.bool (decide ((((0 : Nat) : Int) : Int) < 1)))) rfl) rfl ?_
  by_cases c10 : (((0 : Nat) : Int) : Int) < 1
  · refine s_no (.no rfl (c := true) (congrArg Value.bool (decide_eq_true c10)) rfl) rfl ?_
    refine s_no (.no rfl (c := true) (congrArg Value.bool (decide_eq_true c10)) rfl) rfl ?_
    refine s_no (.no rfl (c := true) (congrArg Value.bool (decide_eq_true c10)) rfl) rfl ?_
    refine s_y (y_pick_t (congrArg Value.bool (decide_eq_true c10)) (v := Vt) rfl) rfl ?_
    refine s_y (y_move (v := Vt) rfl) rfl ?_
    refine s_no (.no rfl (c := true) rfl rfl) rfl ?_
    refine s_no (.no rfl (c := true) rfl rfl) rfl ?_
    refine s_no (.no rfl (c := true) rfl rfl) rfl ?_
    refine s_y (y_pick_t rfl (v := Vt) rfl) rfl ?_
    refine s_y (y_move (v := Vt) rfl) rfl ?_
    refine s_no (.no rfl (c := true) rfl rfl) rfl ?_
    refine s_no (.no rfl (c := true) rfl rfl) rfl ?_
    refine s_no (.no rfl (c := true) rfl rfl) rfl ?_
    refine s_y (y_pick_t rfl (v := Vt) rfl) rfl ?_
    refine s_y (y_move (v := Vt) rfl) rfl ?_
    refine s_no (.no rfl (c := true) rfl rfl) rfl ?_
    refine s_no (.no rfl (c := true) rfl rfl) rfl ?_
    refine s_no (.no rfl (c := true) rfl rfl) rfl ?_
    refine s_y (y_pick_t rfl (v := Vt) rfl) rfl ?_
    refine s_y (y_move (v := Vt) rfl) rfl ?_
    refine s_no (.no rfl (c := true) rfl rfl) rfl ?_
    refine s_no (.no rfl (c := true) rfl rfl) rfl ?_
    refine s_no (.no rfl (c := true) rfl rfl) rfl ?_
    refine s_no (.no rfl (c := true) rfl rfl) rfl ?_
    refine s_y (y_pick_t rfl (v := Vt) rfl) rfl ?_
    refine s_nil (hK9 _ _ (genC [(0, (.slice p 0 c)), (1, (Vi low)), (2, (Vi high)), (38, Vt)] ⟨g5, g6, g7, rfl, trivial⟩ ?_))
    clear hK9; rintro E ⟨g11, g12, g13, g14, -⟩
    refine cond_t g14 ?_
    refine seq fun K15 hK15 => ?_
    refine reg ?_
    refine s_y (y_assign (v := (.pointer none)) rfl) rfl ?_
    refine s_y (y_assign (v := (Vi 1)) rfl) rfl ?_
    refine s_nil (hK15 _ _ (genC [(6, (.pointer none)), (7, (Vi 1))] ⟨rfl, rfl, trivial⟩ ?_))
    clear hK15; rintro E ⟨g16, g17, -⟩
    refine ret (hret _ _ [(.pointer none), (Vi 1)] ⟨g16, g17, trivial⟩ ?_)
    exact ⟨rfl, (Kp.refl _ _)⟩
  · omega

theorem bibnew_e {p : Option Addr} {c : Nat} {low high max : Int} {w : World} (hm : -9223372036854775808 ≤ max ∧ max ≤ 9223372036854775807) : Rets Tryd.prog 12 #[(.slice p 0 c), (.int .i64 low), (.int .i64 high), (.int .i64 max)] w fun v w' => v = .tuple #[.pointer none, .int .i64 1] ∧ K0 w w' := by
  refine enter Tryd.func12 rfl Tryd.ntmps12 rfl fun Q hret hend E hE => ?_
  have g1 : E 0 = (.slice p 0 c) := hE 0
  have g2 : E 1 = (Vi low) := hE 1
  have g3 : E 2 = (Vi high) := hE 2
  have g4 : E 3 = (Vi max) := hE 3
  clear hE
  refine seq fun K5 hK5 => ?_
  refine reg ?_
  refine s_y (y_assign (v := (.pointer none)) rfl) rfl ?_
  refine s_y (y_assign (v := (Vi 0)) rfl) rfl ?_
  refine s_nil (hK5 _ _ (genC [(0, (.slice p 0 c)), (1, (Vi low)), (2, (Vi high)), (3, (Vi max))] ⟨g1, g2, g3, g4, trivial⟩ ?_))
  clear hK5; rintro E ⟨g6, g7, g8, g9, -⟩
  refine seq fun K10 hK10 => ?_
  refine reg ?_
  refine s_y (y_move (v := (Vi max)) g9) rfl ?_
  refine s_e (e_call ca44 (args := [(Vi max)]) rfl (ixnew_spec max _ hm)) rfl ?_
  rintro _ w11 ⟨⟨hx14, rfl⟩ | ⟨hx14, x13, rfl, hnx15⟩, hk12⟩
  · have ka16 : Kp (fun _ => False) w w11 := (Kp.then0 (Kp.refl _ _) hk12)
    refine s_y (y_move (v := (.tuple #[(.pointer none), (Vi 1)])) rfl) rfl ?_
    refine s_y (y_ext rfl (v := (.pointer none)) rfl) rfl ?_
    refine s_y (y_ext rfl (v := (Vi 1)) rfl) rfl ?_
    refine s_y (y_assign (v := (.pointer none)) rfl) rfl ?_
    refine s_y (y_assign (v := (Vi 1)) rfl) rfl ?_
    refine s_nil (hK10 _ _ (genC [(0, (.slice p 0 c)), (1, (Vi low)), (2, (Vi high)), (3, (Vi max)), (10, (.pointer none)), (11, (Vi 1))] ⟨g6, g7, g8, g9, rfl, rfl, trivial⟩ ?_))
    clear hK10; rintro E ⟨g17, g18, g19, g20, g21, g22, -⟩
    refine seq fun K23 hK23 => ?_
    refine reg ?_
    refine s_y (y_move (v := (Vi max)) g20) rfl ?_
    refine s_e (e_call ca44 (args := [(Vi max)]) rfl (ixnew_spec max _ hm)) rfl ?_
    rintro _ w24 ⟨⟨hx27, rfl⟩ | ⟨hx27, x26, rfl, hnx28⟩, hk25⟩
    · have ka29 := (Kp.then0 ka16 hk25)
      refine s_y (y_move (v := (.tuple #[(.pointer none), (Vi 1)])) rfl) rfl ?_
      refine s_y (y_ext rfl (v := (.pointer none)) rfl) rfl ?_
      refine s_y (y_ext rfl (v := (Vi 1)) rfl) rfl ?_
      refine s_y (y_assign (v := (.pointer none)) rfl) rfl ?_
      refine s_y (y_assign (v := (Vi 1)) rfl) rfl ?_
      refine s_nil (hK23 _ _ (genC [(0, (.slice p 0 c)), (1, (Vi low)), (2, (Vi high)), (3, (Vi max)), (10, (.pointer none)), (11, (Vi 1)), (12, (.pointer none)), (13, (Vi 1))] ⟨g17, g18, g19, g20, g21, g22, rfl, rfl, trivial⟩ ?_))
      clear hK23; rintro E ⟨g30, g31, g32, g33, g34, g35, g36, g37, -⟩
      refine seq fun K38 hK38 => ?_
      refine seq fun K39 hK39 => ?_
      refine reg ?_
      refine s_y (y_move (v := (Vi 1)) g35) rfl ?_
      refine s_y (y_neq rfl rfl) rfl ?_
      refine s_y (y_move (v := Vt) rfl) rfl ?_
      refine s_no (.no rfl (c := true) rfl rfl) rfl ?_
      refine s_no (.no rfl (c := true) rfl rfl) rfl ?_
      refine s_y (y_pick_t rfl (v := Vt) rfl) rfl ?_
      refine s_nil (hK39 _ _ (genC [(0, (.slice p 0 c)), (1, (Vi low)), (2, (Vi high)), (3, (Vi max)), (10, (.pointer none)), (12, (.pointer none)), (33, Vt)] ⟨g30, g31, g32, g33, g34, g36, rfl, trivial⟩ ?_))
      clear hK39; rintro E ⟨g40, g41, g42, g43, g44, g45, g46, -⟩
      refine cond_t g46 ?_
      refine seq fun K47 hK47 => ?_
      refine reg ?_
      refine s_y (y_assign (v := (.pointer none)) rfl) rfl ?_
      refine s_y (y_assign (v := (Vi 1)) rfl) rfl ?_
      refine s_nil (hK47 _ _ (genC [(8, (.pointer none)), (9, (Vi 1))] ⟨rfl, rfl, trivial⟩ ?_))
      clear hK47; rintro E ⟨g48, g49, -⟩
      refine ret (hret _ _ [(.pointer none), (Vi 1)] ⟨g48, g49, trivial⟩ ?_)
      exact ⟨rfl, ka29⟩
    · have ka50 := (Kp.then0 ka16 hk25)
      refine s_y (y_move (v := (.tuple #[(Vp x26.ib 0), (Vi 0)])) rfl) rfl ?_
      refine s_y (y_ext rfl (v := (Vp x26.ib 0)) rfl) rfl ?_
      refine s_y (y_ext rfl (v := (Vi 0)) rfl) rfl ?_
      refine s_y (y_assign (v := (Vp x26.ib 0)) rfl) rfl ?_
      refine s_y (y_assign (v := (Vi 0)) rfl) rfl ?_
      refine s_nil (hK23 _ _ (genC [(0, (.slice p 0 c)), (1, (Vi low)), (2, (Vi high)), (3, (Vi max)), (10, (.pointer none)), (11, (Vi 1)), (12, (Vp x26.ib 0)), (13, (Vi 0))] ⟨g17, g18, g19, g20, g21, g22, rfl, rfl, trivial⟩ ?_))
      clear hK23; rintro E ⟨g51, g52, g53, g54, g55, g56, g57, g58, -⟩
      refine seq fun K59 hK59 => ?_
      refine seq fun K60 hK60 => ?_
      refine reg ?_
      refine s_y (y_move (v := (Vi 1)) g56) rfl ?_
      refine s_y (y_neq rfl rfl) rfl ?_
      refine s_y (y_move (v := Vt) rfl) rfl ?_
      refine s_no (.no rfl (c := true) rfl rfl) rfl ?_
      refine s_no (.no rfl (c := true) rfl rfl) rfl ?_
      refine s_y (y_pick_t rfl (v := Vt) rfl) rfl ?_
      refine s_nil (hK60 _ _ (genC [(0, (.slice p 0 c)), (1, (Vi low)), (2, (Vi high)), (3, (Vi max)), (10, (.pointer none)), (12, (Vp x26.ib 0)), (33, Vt)] ⟨g51, g52, g53, g54, g55, g57, rfl, trivial⟩ ?_))
      clear hK60; rintro E ⟨g61, g62, g63, g64, g65, g66, g67, -⟩
      refine cond_t g67 ?_
      refine seq fun K68 hK68 => ?_
      refine reg ?_
      refine s_y (y_assign (v := (.pointer none)) rfl) rfl ?_
      refine s_y (y_assign (v := (Vi 1)) rfl) rfl ?_
      refine s_nil (hK68 _ _ (genC [(8, (.pointer none)), (9, (Vi 1))] ⟨rfl, rfl, trivial⟩ ?_))
      clear hK68; rintro E ⟨g69, g70, -⟩
      refine ret (hret _ _ [(.pointer none), (Vi 1)] ⟨g69, g70, trivial⟩ ?_)
      exact ⟨rfl, ka50⟩
  · have ka71 : Kp (fun _ => False) w w11 := (Kp.then0 (Kp.refl _ _) hk12)
    refine s_y (y_move (v := (.tuple #[(Vp x13.ib 0), (Vi 0)])) rfl) rfl ?_
    refine s_y (y_ext rfl (v := (Vp x13.ib 0)) rfl) rfl ?_
    refine s_y (y_ext rfl (v := (Vi 0)) rfl) rfl ?_
    refine s_y (y_assign (v := (Vp x13.ib 0)) rfl) rfl ?_
    refine s_y (y_assign (v := (Vi 0)) rfl) rfl ?_
    refine s_nil (hK10 _ _ (genC [(0, (.slice p 0 c)), (1, (Vi low)), (2, (Vi high)), (3, (Vi max)), (10, (Vp x13.ib 0)), (11, (Vi 0))] ⟨g6, g7, g8, g9, rfl, rfl, trivial⟩ ?_))
    clear hK10; rintro E ⟨g72, g73, g74, g75, g76, g77, -⟩
    refine seq fun K78 hK78 => ?_
    refine reg ?_
    refine s_y (y_move (v := (Vi max)) g75) rfl ?_
    refine s_e (e_call ca44 (args := [(Vi max)]) rfl (ixnew_spec max _ hm)) rfl ?_
    rintro _ w79 ⟨⟨hx82, rfl⟩ | ⟨hx82, x81, rfl, hnx83⟩, hk80⟩
    · have ka84 := (Kp.then0 ka71 hk80)
      refine s_y (y_move (v := (.tuple #[(.pointer none), (Vi 1)])) rfl) rfl ?_
      refine s_y (y_ext rfl (v := (.pointer none)) rfl) rfl ?_
      refine s_y (y_ext rfl (v := (Vi 1)) rfl) rfl ?_
      refine s_y (y_assign (v := (.pointer none)) rfl) rfl ?_
      refine s_y (y_assign (v := (Vi 1)) rfl) rfl ?_
      refine s_nil (hK78 _ _ (genC [(0, (.slice p 0 c)), (1, (Vi low)), (2, (Vi high)), (3, (Vi max)), (10, (Vp x13.ib 0)), (11, (Vi 0)), (12, (.pointer none)), (13, (Vi 1))] ⟨g72, g73, g74, g75, g76, g77, rfl, rfl, trivial⟩ ?_))
      clear hK78; rintro E ⟨g85, g86, g87, g88, g89, g90, g91, g92, -⟩
      refine seq fun K93 hK93 => ?_
      refine seq fun K94 hK94 => ?_
      refine reg ?_
      refine s_y (y_move (v := (Vi 0)) g90) rfl ?_
      refine s_y (y_neq rfl rfl) rfl ?_
      refine s_y (y_move (v := Vf) rfl) rfl ?_
      refine s_gy (.yes rfl rfl) (y_move (v := (Vi 1)) g92) rfl ?_
      refine s_gy (.yes rfl rfl) (y_neq rfl rfl) rfl ?_
      refine s_y (y_pick_f rfl (v := Vt) rfl) rfl ?_
      refine s_nil (hK94 _ _ (genC [(0, (.slice p 0 c)), (1, (Vi low)), (2, (Vi high)), (3, (Vi max)), (10, (Vp x13.ib 0)), (12, (.pointer none)), (33, Vt)] ⟨g85, g86, g87, g88, g89, g91, rfl, trivial⟩ ?_))
      clear hK94; rintro E ⟨g95, g96, g97, g98, g99, g100, g101, -⟩
      refine cond_t g101 ?_
      refine seq fun K102 hK102 => ?_
      refine reg ?_
      refine s_y (y_assign (v := (.pointer none)) rfl) rfl ?_
      refine s_y (y_assign (v := (Vi 1)) rfl) rfl ?_
      refine s_nil (hK102 _ _ (genC [(8, (.pointer none)), (9, (Vi 1))] ⟨rfl, rfl, trivial⟩ ?_))
      clear hK102; rintro E ⟨g103, g104, -⟩
      refine ret (hret _ _ [(.pointer none), (Vi 1)] ⟨g103, g104, trivial⟩ ?_)
      exact ⟨rfl, ka84⟩
    · have ka105 := (Kp.then0 ka71 hk80)
      refine s_y (y_move (v := (.tuple #[(Vp x81.ib 0), (Vi 0)])) rfl) rfl ?_
      refine s_y (y_ext rfl (v := (Vp x81.ib 0)) rfl) rfl ?_
      refine s_y (y_ext rfl (v := (Vi 0)) rfl) rfl ?_
      refine s_y (y_assign (v := (Vp x81.ib 0)) rfl) rfl ?_
      refine s_y (y_assign (v := (Vi 0)) rfl) rfl ?_
      refine s_nil (hK78 _ _ (genC [(0, (.slice p 0 c)), (1, (Vi low)), (2, (Vi high)), (3, (Vi max)), (10, (Vp x13.ib 0)), (11, (Vi 0)), (12, (Vp x81.ib 0)), (13, (Vi 0))] ⟨g72, g73, g74, g75, g76, g77, rfl, rfl, trivial⟩ ?_))
      clear hK78; rintro E ⟨g106, g107, g108, g109, g110, g111, g112, g113, -⟩
      refine seq fun K114 hK114 => ?_
      refine seq fun K115 hK115 => ?_
      refine reg ?_
      refine s_y (y_move (v := (Vi 0)) g111) rfl ?_
      refine s_y (y_neq rfl rfl) rfl ?_
      refine s_y (y_move (v := Vf) rfl) rfl ?_
      refine s_gy (.yes rfl rfl) (y_move (v := (Vi 0)) g113) rfl ?_
      refine s_gy (.yes rfl rfl) (y_neq rfl rfl) rfl ?_
      refine s_y (y_pick_f rfl (v := Vf) rfl) rfl ?_
      refine s_nil (hK115 _ _ (genC [(0, (.slice p 0 c)), (1, (Vi low)), (2, (Vi high)), (3, (Vi max)), (10, (Vp x13.ib 0)), (12, (Vp x81.ib 0)), (33, Vf)] ⟨g106, g107, g108, g109, g110, g112, rfl, trivial⟩ ?_))
      clear hK115; rintro E ⟨g116, g117, g118, g119, g120, g121, g122, -⟩
      refine cond_f g122 ?_
      refine skip (hK114 _ _ (genC [(0, (.slice p 0 c)), (1, (Vi low)), (2, (Vi high)), (3, (Vi max)), (10, (Vp x13.ib 0)), (12, (Vp x81.ib 0))] ⟨g116, g117, g118, g119, g120, g121, trivial⟩ ?_))
      clear hK114; rintro E ⟨g123, g124, g125, g126, g127, g128, -⟩
      refine seq fun K129 hK129 => ?_
      refine reg ?_
      refine s_y (y_move (v := (Vi max)) g126) rfl ?_
      refine s_e e_makeMap rfl ?_
      rintro _ w130 ⟨rfl, hm131, hk132⟩
      have ka133 := (Kp.then0 ka105 hk132)
      refine s_y (y_move (v := (Vp x13.ib 0)) g127) rfl ?_
      refine s_y (y_move (v := (Vp x81.ib 0)) g128) rfl ?_
      refine s_y (y_build (vs := [(0, (Vi max)), (3, (.map (some w79.heap.size))), (4, (Vp x13.ib 0)), (5, (Vp x81.ib 0))]) (v := (.agg #[.int .i64 max, .int .i64 0, U0, U0, U0, U0, .map (some w79.heap.size), .pointer (some ⟨x13.ib, 0, none⟩), .pointer (some ⟨x81.ib, 0, none⟩), .pointer none, .pointer none, .pointer none])) rfl (fun _ => by kernel_rfl)) rfl ?_
      refine s_e (e_box (v := (.agg #[.int .i64 max, .int .i64 0, U0, U0, U0, U0, .map (some w79.heap.size), .pointer (some ⟨x13.ib, 0, none⟩), .pointer (some ⟨x81.ib, 0, none⟩), .pointer none, .pointer none, .pointer none])) rfl) rfl ?_
      rintro _ w134 ⟨rfl, hb135, hk136⟩
      have ka137 := (Kp.then0 ka133 hk136)
      refine s_y (y_assign (v := (Vp w130.heap.size 0)) rfl) rfl ?_
      refine s_nil (hK129 _ _ (genC [(0, (.slice p 0 c)), (1, (Vi low)), (2, (Vi high)), (14, (Vp w130.heap.size 0))] ⟨g123, g124, g125, rfl, trivial⟩ ?_))
      clear hK129; rintro E ⟨g138, g139, g140, g141, -⟩
      refine seq fun K142 hK142 => ?_
      refine seq fun K143 hK143 => ?_
      refine reg ?_
      refine s_y (y_move (v := (Vi 0)) rfl) rfl ?_
      refine s_nil (hK143 _ _ (genC [(0, (.slice p 0 c)), (1, (Vi low)), (2, (Vi high)), (14, (Vp w130.heap.size 0)), (40, (Vi 0))] ⟨g138, g139, g140, g141, rfl, trivial⟩ ?_))
      clear hK143; rintro E ⟨g144, g145, g146, g147, g148, -⟩
      refine block ?_
      refine loopG (X := Nat) (fun q_ E w_ => Has E [(0, (.slice p 0 c)), (1, (Vi low)), (2, (Vi high)), (14, (Vp w130.heap.size 0)), (40, (Vi (((q_ : Nat) : Int))))] ∧ Kp (fun _ => False) w134 w_ ∧ (q_ = 0)) (fun q_ => q_) 0 ⟨⟨g144, g145, g146, g147, g148, trivial⟩, Kp.refl _ _, (show 0 = 0 from rfl)⟩ ?_
      rintro i E w154 ⟨⟨g149, g150, g151, g152, g153, -⟩, hk155, hi157⟩ K156 hK156
      replace hi157 : i = 0 := hi157
      have ka158 := (Kp.then0 ka137 hk155)
      refine seq fun K159 hK159 => ?_
      refine reg ?_
      refine s_y (y_lss g153 rfl) rfl ?_
      refine s_nil (hK159 _ _ (genC [(0, (.slice p 0 c)), (1, (Vi low)), (2, (Vi high)), (14, (Vp w130.heap.size 0)), (40, (Vi (((i : Nat) : Int)))), (41, (.bool (decide ((((i : Nat) : Int) : Int) < 3))))] ⟨g149, g150, g151, g152, g153, rfl, trivial⟩ ?_))
      clear hK159; rintro E ⟨g160, g161, g162, g163, g164, g165, -⟩
      refine seq fun K166 hK166 => ?_
      refine cond_d g165 (fun c167 => ?_) (fun c167 => ?_)
      · refine skip (hK166 _ _ (genC [(0, (.slice p 0 c)), (1, (Vi low)), (2, (Vi high)), (14, (Vp w130.heap.size 0)), (40, (Vi (((i : Nat) : Int))))] ⟨g160, g161, g162, g163, g164, trivial⟩ ?_))
        clear hK166; rintro E ⟨g168, g169, g170, g171, g172, -⟩
        refine seq fun K173 hK173 => ?_
        refine block ?_
        refine seq fun K174 hK174 => ?_
        refine reg ?_
        refine s_y (y_move (v := (Vi (((i : Nat) : Int)))) g172) rfl ?_
        refine s_y (y_assign (v := (Vi (((i : Nat) : Int)))) rfl) rfl ?_
        refine s_nil (hK174 _ _ (genC [(0, (.slice p 0 c)), (1, (Vi low)), (2, (Vi high)), (14, (Vp w130.heap.size 0)), (15, (Vi (((i : Nat) : Int)))), (40, (Vi (((i : Nat) : Int))))] ⟨g168, g169, g170, g171, rfl, g172, trivial⟩ ?_))
        clear hK174; rintro E ⟨g175, g176, g177, g178, g179, g180, -⟩
        refine seq fun K181 hK181 => ?_
        refine reg ?_
        refine s_y (y_move (v := (.slice p 0 c)) g175) rfl ?_
        refine s_y (y_move (v := (Vi low)) g176) rfl ?_
        refine s_y (y_move (v := (Vi high)) g177) rfl ?_
        refine s_e (e_call ca45 (args := [(.slice p 0 c), (Vi low), (Vi high)]) rfl (poolnew_e)) rfl ?_
        rintro _ w182 ⟨rfl, hk183⟩
        have ka184 := (Kp.then0 ka158 hk183)
        refine s_y (y_move (v := (.tuple #[(.pointer none), (Vi 1)])) rfl) rfl ?_
        refine s_y (y_ext rfl (v := (.pointer none)) rfl) rfl ?_
        refine s_y (y_ext rfl (v := (Vi 1)) rfl) rfl ?_
        refine s_y (y_assign (v := (.pointer none)) rfl) rfl ?_
        refine s_y (y_assign (v := (Vi 1)) rfl) rfl ?_
        refine s_nil (hK181 _ _ (genC [(0, (.slice p 0 c)), (1, (Vi low)), (2, (Vi high)), (14, (Vp w130.heap.size 0)), (15, (Vi (((i : Nat) : Int)))), (16, (.pointer none)), (17, (Vi 1)), (40, (Vi (((i : Nat) : Int))))] ⟨g175, g176, g177, g178, g179, rfl, rfl, g180, trivial⟩ ?_))
        clear hK181; rintro E ⟨g185, g186, g187, g188, g189, g190, g191, g192, -⟩
        refine seq fun K193 hK193 => ?_
        refine seq fun K194 hK194 => ?_
        refine reg ?_
        refine s_y (y_move (v := (Vi 1)) g191) rfl ?_
        refine s_y (y_neq rfl rfl) rfl ?_
        refine s_nil (hK194 _ _ (genC [(0, (.slice p 0 c)), (1, (Vi low)), (2, (Vi high)), (14, (Vp w130.heap.size 0)), (15, (Vi (((i : Nat) : Int)))), (16, (.pointer none)), (17, (Vi 1)), (40, (Vi (((i : Nat) : Int)))), (51, Vt)] ⟨g185, g186, g187, g188, g189, g190, g191, g192, rfl, trivial⟩ ?_))
        clear hK194; rintro E ⟨g195, g196, g197, g198, g199, g200, g201, g202, g203, -⟩
        refine cond_t g203 ?_
        refine seq fun K204 hK204 => ?_
        refine reg ?_
        refine s_y (y_move (v := (Vi 1)) g201) rfl ?_
        refine s_y (y_assign (v := (.pointer none)) rfl) rfl ?_
        refine s_y (y_assign (v := (Vi 1)) rfl) rfl ?_
        refine s_nil (hK204 _ _ (genC [(8, (.pointer none)), (9, (Vi 1))] ⟨rfl, rfl, trivial⟩ ?_))
        clear hK204; rintro E ⟨g205, g206, -⟩
        refine ret (hret _ _ [(.pointer none), (Vi 1)] ⟨g205, g206, trivial⟩ ?_)
        exact ⟨rfl, ka184⟩
      · omega

theorem great_spec {p p2 : Option Addr} {n c m c2 : Nat} {low high : Int} {w : World} : Rets Tryd.prog 23 #[(.slice p n c), (.int .i64 low), (.int .i64 high), (.slice p2 m c2)] w fun v w' => (∃ b : Bool, v = .bool b ∧ (b = false → n ≤ 10 ∧ m ≤ 150)) ∧ K0 w w' := by
  refine enter Tryd.func23 rfl Tryd.ntmps23 rfl fun Q hret hend E hE => ?_
  have g1 : E 0 = (.slice p n c) := hE 0
  have g2 : E 1 = (Vi low) := hE 1
  have g3 : E 2 = (Vi high) := hE 2
  have g4 : E 3 = (.slice p2 m c2) := hE 3
  clear hE
  refine seq fun K5 hK5 => ?_
  refine reg ?_
  refine s_y (y_assign (v := Vf) rfl) rfl ?_
  refine s_nil (hK5 _ _ (genC [(0, (.slice p n c)), (1, (Vi low)), (2, (Vi high)), (3, (.slice p2 m c2))] ⟨g1, g2, g3, g4, trivial⟩ ?_))
  clear hK5; rintro E ⟨g6, g7, g8, g9, -⟩
  refine seq fun K10 hK10 => ?_
  refine reg ?_
  refine s_y (y_move (v := (.slice p n c)) g6) rfl ?_
  refine s_y (y_lenS so28 rfl) rfl ?_
  refine s_y (y_gtr rfl rfl) rfl ?_
  refine s_y (y_move (v := (.bool (decide ((10 : Int) < ((n : Nat) : Int))))) rfl) rfl ?_
  by_cases c11 : (10 : Int) < ((n : Nat) : Int)
  · refine s_no (.no rfl (c := true) (congrArg Value.bool (decide_eq_true c11)) rfl) rfl ?_
    refine s_no (.no rfl (c := true) (congrArg Value.bool (decide_eq_true c11)) rfl) rfl ?_
    refine s_no (.no rfl (c := true) (congrArg Value.bool (decide_eq_true c11)) rfl) rfl ?_
    refine s_y (y_pick_t (congrArg Value.bool (decide_eq_true c11)) (v := Vt) rfl) rfl ?_
    refine s_y (y_move (v := Vt) rfl) rfl ?_
    refine s_no (.no rfl (c := true) rfl rfl) rfl ?_
    refine s_no (.no rfl (c := true) rfl rfl) rfl ?_
    refine s_no (.no rfl (c := true) rfl rfl) rfl ?_
    refine s_no (.no rfl (c := true) rfl rfl) rfl ?_
    refine s_y (y_pick_t rfl (v := Vt) rfl) rfl ?_
    refine s_y (y_move (v := Vt) rfl) rfl ?_
    refine s_no (.no rfl (c := true) rfl rfl) rfl ?_
    refine s_no (.no rfl (c := true) rfl rfl) rfl ?_
    refine s_no (.no rfl (c := true) rfl rfl) rfl ?_
    refine s_no (.no rfl (c := true) rfl rfl) rfl ?_
    refine s_no (.no rfl (c := true) rfl rfl) rfl ?_
    refine s_no (.off rfl rfl) rfl ?_
    refine s_no (.off rfl rfl) rfl ?_
    refine s_no (.off rfl rfl) rfl ?_
    refine s_no (.no rfl (c := true) rfl rfl) rfl ?_
    refine s_y (y_pick_t rfl (v := Vt) rfl) rfl ?_
    refine s_y (y_assign (v := Vt) rfl) rfl ?_
    refine s_nil (hK10 _ _ (genC [(8, Vt)] ⟨rfl, trivial⟩ ?_))
    clear hK10; rintro E ⟨g12, -⟩
    refine ret (hret _ _ [Vt] ⟨g12, trivial⟩ ?_)
    exact ⟨⟨true, rfl, fun h9 => by cases h9⟩, (Kp.refl _ _)⟩
  · refine s_gy (.yes rfl (congrArg Value.bool (decide_eq_false c11))) (y_move (v := (.slice p2 m c2)) g9) rfl ?_
    refine s_gy (.yes rfl (congrArg Value.bool (decide_eq_false c11))) (y_lenS so74 rfl) rfl ?_
    refine s_gy (.yes rfl (congrArg Value.bool (decide_eq_false c11))) (y_gtr rfl rfl) rfl ?_
    refine s_y (y_pick_f (congrArg Value.bool (decide_eq_false c11)) (v := (.bool (decide ((150 : Int) < ((m : Nat) : Int))))) rfl) rfl ?_
    refine s_y (y_move (v := (.bool (decide ((150 : Int) < ((m : Nat) : Int))))) rfl) rfl ?_
    by_cases c13 : (150 : Int) < ((m : Nat) : Int)
    · refine s_no (.no rfl (c := true) (congrArg Value.bool (decide_eq_true c13)) rfl) rfl ?_
      refine s_no (.no rfl (c := true) (congrArg Value.bool (decide_eq_true c13)) rfl) rfl ?_
      refine s_no (.no rfl (c := true) (congrArg Value.bool (decide_eq_true c13)) rfl) rfl ?_
      refine s_no (.no rfl (c := true) (congrArg Value.bool (decide_eq_true c13)) rfl) rfl ?_
      refine s_y (y_pick_t (congrArg Value.bool (decide_eq_true c13)) (v := Vt) rfl) rfl ?_
      refine s_y (y_move (v := Vt) rfl) rfl ?_
      refine s_no (.no rfl (c := true) rfl rfl) rfl ?_
      refine s_no (.no rfl (c := true) rfl rfl) rfl ?_
      refine s_no (.no rfl (c := true) rfl rfl) rfl ?_
      refine s_no (.no rfl (c := true) rfl rfl) rfl ?_
      refine s_no (.no rfl (c := true) rfl rfl) rfl ?_
      refine s_no (.off rfl rfl) rfl ?_
      refine s_no (.off rfl rfl) rfl ?_
      refine s_no (.off rfl rfl) rfl ?_
      refine s_no (.no rfl (c := true) rfl rfl) rfl ?_
      refine s_y (y_pick_t rfl (v := Vt) rfl) rfl ?_
      refine s_y (y_assign (v := Vt) rfl) rfl ?_
      refine s_nil (hK10 _ _ (genC [(8, Vt)] ⟨rfl, trivial⟩ ?_))
      clear hK10; rintro E ⟨g14, -⟩
      refine ret (hret _ _ [Vt] ⟨g14, trivial⟩ ?_)
      exact ⟨⟨true, rfl, fun h9 => by cases h9⟩, (Kp.refl _ _)⟩
    · refine s_gy (.yes rfl (congrArg Value.bool (decide_eq_false c13))) (y_move (v := (Vi high)) g8) rfl ?_
      refine s_gy (.yes rfl (congrArg Value.bool (decide_eq_false c13))) (y_move (v := (Vi low)) g7) rfl ?_
      refine s_gy (.yes rfl (congrArg Value.bool (decide_eq_false c13))) (y_subw rfl rfl) rfl ?_
      refine s_gy (.yes rfl (congrArg Value.bool (decide_eq_false c13))) (y_gtr rfl rfl) rfl ?_
      refine s_y (y_pick_f (congrArg Value.bool (decide_eq_false c13)) (v := (.bool (decide ((60 : Int) < IntKind.i64.wrap (high - low))))) rfl) rfl ?_
      refine s_y (y_move (v := (.bool (decide ((60 : Int) < IntKind.i64.wrap (high - low))))) rfl) rfl ?_
      by_cases c15 : (60 : Int) < IntKind.i64.wrap (high - low)
      · refine s_no (.no rfl (c := true) (congrArg Value.bool (decide_eq_true c15)) rfl) rfl ?_
        refine s_no (.no rfl (c := true) (congrArg Value.bool (decide_eq_true c15)) rfl) rfl ?_
        refine s_no (.no rfl (c := true) (congrArg Value.bool (decide_eq_true c15)) rfl) rfl ?_
        refine s_no (.no rfl (c := true) (congrArg Value.bool (decide_eq_true c15)) rfl) rfl ?_
        refine s_no (.no rfl (c := true) (congrArg Value.bool (decide_eq_true c15)) rfl) rfl ?_
        refine s_no (.off rfl rfl) rfl ?_
        refine s_no (.off rfl rfl) rfl ?_
        refine s_no (.off rfl rfl) rfl ?_
        refine s_no (.no rfl (c := true) (congrArg Value.bool (decide_eq_true c15)) rfl) rfl ?_
        refine s_y (y_pick_t (congrArg Value.bool (decide_eq_true c15)) (v := Vt) rfl) rfl ?_
        refine s_y (y_assign (v := Vt) rfl) rfl ?_
        refine s_nil (hK10 _ _ (genC [(8, Vt)] ⟨rfl, trivial⟩ ?_))
        clear hK10; rintro E ⟨g16, -⟩
        refine ret (hret _ _ [Vt] ⟨g16, trivial⟩ ?_)
        exact ⟨⟨true, rfl, fun h9 => by cases h9⟩, (Kp.refl _ _)⟩
      · refine s_gy (.yes rfl (congrArg Value.bool (decide_eq_false c15))) (y_move (v := (Vi high)) g8) rfl ?_
        refine s_gy (.yes rfl (congrArg Value.bool (decide_eq_false c15))) (y_move (v := (Vi low)) g7) rfl ?_
        refine s_gy (.yes rfl (congrArg Value.bool (decide_eq_false c15))) (y_subw rfl rfl) rfl ?_
        refine s_gy (.yes rfl (congrArg Value.bool (decide_eq_false c15))) (y_lss rfl rfl) rfl ?_
        refine s_gy (.yes rfl (congrArg Value.bool (decide_eq_false c15))) (y_move (v := (.bool (decide ((IntKind.i64.wrap (high - low) : Int) < 0)))) rfl) rfl ?_
        by_cases c17 : (IntKind.i64.wrap (high - low) : Int) < 0
        · refine s_gy (.yes rfl (congrArg Value.bool (decide_eq_true c17))) (y_move (v := (Vi high)) g8) rfl ?_
          refine s_gy (.yes rfl (congrArg Value.bool (decide_eq_true c17))) (y_move (v := (Vi low)) g7) rfl ?_
          refine s_gy (.yes rfl (congrArg Value.bool (decide_eq_true c17))) (y_gtr rfl rfl) rfl ?_
          refine s_gy (.yes rfl (congrArg Value.bool (decide_eq_false c15))) (y_pick_t (congrArg Value.bool (decide_eq_true c17)) (v := (.bool (decide ((low : Int) < high)))) rfl) rfl ?_
          refine s_y (y_pick_f (congrArg Value.bool (decide_eq_false c15)) (v := (.bool (decide ((low : Int) < high)))) rfl) rfl ?_
          refine s_y (y_assign (v := (.bool (decide ((low : Int) < high)))) rfl) rfl ?_
          refine s_nil (hK10 _ _ (genC [(8, (.bool (decide ((low : Int) < high))))] ⟨rfl, trivial⟩ ?_))
          clear hK10; rintro E ⟨g18, -⟩
          refine ret (hret _ _ [(.bool (decide ((low : Int) < high)))] ⟨g18, trivial⟩ ?_)
          exact ⟨⟨_, rfl, fun _ => by constructor <;> omega⟩, (Kp.refl _ _)⟩
        · refine s_no (.no rfl (c := false) (congrArg Value.bool (decide_eq_false c17)) rfl) rfl ?_
          refine s_no (.no rfl (c := false) (congrArg Value.bool (decide_eq_false c17)) rfl) rfl ?_
          refine s_no (.no rfl (c := false) (congrArg Value.bool (decide_eq_false c17)) rfl) rfl ?_
          refine s_gy (.yes rfl (congrArg Value.bool (decide_eq_false c15))) (y_pick_f (congrArg Value.bool (decide_eq_false c17)) (v := Vf) rfl) rfl ?_
          refine s_y (y_pick_f (congrArg Value.bool (decide_eq_false c15)) (v := Vf) rfl) rfl ?_
          refine s_y (y_assign (v := Vf) rfl) rfl ?_
          refine s_nil (hK10 _ _ (genC [(8, Vf)] ⟨rfl, trivial⟩ ?_))
          clear hK10; rintro E ⟨g19, -⟩
          refine ret (hret _ _ [Vf] ⟨g19, trivial⟩ ?_)
          exact ⟨⟨_, rfl, fun _ => by constructor <;> omega⟩, (Kp.refl _ _)⟩

def hE (last : Int) : Ab := ⟨last, [], fun _ => []⟩
def hS (last p : Int) (t : T6) (u : T4) (s : Bool) (n : Int) : Ab := ⟨last, [⟨last, p, t, u, s, n⟩], setH (fun _ => []) (kN p) [(u, s)]⟩
theorem setH_two (k : Nat) (x y : List (T4 × Bool)) : setH (setH (fun _ => []) k x) k y = setH (fun _ => []) k y := by
  funext j; unfold setH; split <;> rfl
theorem setH_nil (k : Nat) : setH (fun _ => ([] : List (T4 × Bool))) k [] = fun _ => [] := by
  funext j; unfold setH; split <;> rfl
theorem setH_at (h : Nat → List (T4 × Bool)) (k : Nat) (x : List (T4 × Bool)) : setH h k x k = x := by unfold setH; simp
theorem add_hE (G : Gp) (last p : Int) (t : T6) : (∃ r : Int, r ≠ 0 ∧ addA G (hE last) p t = (zeroB, r, hE last)) ∨ ∃ u, 0 ≤ kindI p ∧ addA G (hE last) p t = (⟨last + 1, p, t, u, false, 0⟩, 0, hS (last + 1) p t u false 0) := by
  unfold addA
  by_cases hm : mayA G (hE last) p t ≠ 0
  · rw [if_pos hm]; exact .inl ⟨_, hm, rfl⟩
  · rw [if_neg hm]
    have hk : 0 ≤ kindI p := by
      unfold mayA at hm
      by_cases h : kindI p < 0
      · rw [if_pos h] at hm; exact absurd (by decide) hm
      · omega
    cases ht : takeA G ((hE last).h (kN p)) (pairA G (hE last).l t.addr) t.port (decide (p = 1)) with
    | none => exact .inl ⟨13, by decide, rfl⟩
    | some r => exact .inr ⟨r, hk, rfl⟩
theorem bind_hE (G : Gp) (last p : Int) (t : T6) (u : T4) : (∃ r : Int, r ≠ 0 ∧ bindA G (hE last) p t u = (zeroB, r, hE last)) ∨ (0 ≤ kindI p ∧ bindA G (hE last) p t u = (⟨last + 1, p, t, u, true, 0⟩, 0, hS (last + 1) p t u true 0)) := by
  unfold bindA
  by_cases hk : kindI p < 0
  · rw [if_pos hk]; exact .inl ⟨10, by decide, rfl⟩
  · rw [if_neg hk]
    split
    · split
      · exact .inl ⟨5, by decide, rfl⟩
      · split
        · rename_i hm; exact .inl ⟨_, hm, rfl⟩
        · exact .inr ⟨by omega, rfl⟩
    · exact .inl ⟨1, by decide, rfl⟩
theorem id_hS (last p : Int) (t : T6) (u : T4) (s : Bool) (n : Int) : idA (hS last p t u s n).l last = some ⟨last, p, t, u, s, n⟩ := by unfold idA hS; simp
theorem id_hE (last n : Int) : idA (hE last).l n = none := rfl
theorem hold_hS (last p : Int) (t : T6) (u : T4) (s : Bool) (n : Int) : holdA (hS last p t u s n) last = (0, hS last p t u s (n + 1)) := by
  unfold holdA; rw [id_hS]; simp [hS, updA, addS]
theorem dropA_stay (last p : Int) (t : T6) (u : T4) (s : Bool) {n : Int} (h0 : n ≠ 0) (h : s = true ∨ 1 < n) : dropA (hS last p t u s n) last = (false, 0, hS last p t u s (n - 1)) := by
  unfold dropA; rw [id_hS]; simp only [if_neg h0, if_pos h]; simp [hS, updA, addS]; omega
theorem dropA_gone (last p : Int) (t : T6) (u : T4) : dropA (hS last p t u false 1) last = (true, 0, hE last) := by
  unfold dropA; rw [id_hS]; simp [hS, cutA, adel, setH_two, setH_nil, setH_at, hE]
theorem drop_hE (last n : Int) : dropA (hE last) n = (false, 4, hE last) := rfl
theorem unbind_hS (last p : Int) (t : T6) (u : T4) (n : Int) (hk : 0 ≤ kindI p) : unbindA (hS last p t u true n) p t = (⟨last, p, t, u, true, n⟩, 0, hE last) := by
  unfold unbindA; rw [if_neg (by omega)]; simp [hS, inA, cutA, adel, setH_two, setH_nil, setH_at, hE]
theorem unbind_hE (last p : Int) (t : T6) (hk : 0 ≤ kindI p) : unbindA (hE last) p t = (zeroB, 4, hE last) := by
  unfold unbindA; rw [if_neg (by omega)]; rfl
theorem ab0_hE : ab0 = hE 0 := rfl
end Go.Proofs.YtdcnblafepgheaaDoor
