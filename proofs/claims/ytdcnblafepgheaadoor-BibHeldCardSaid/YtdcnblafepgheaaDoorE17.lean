/-
  Written by a program (wip/walks).
-/
import Derived.Test.YtdcnblafepgheaaDoorE16
namespace Go.Proofs.YtdcnblafepgheaaDoor
open Go Go.V
set_option maxRecDepth 100000
def pc (Q : Nat → PoolG) (i j : Nat) : Value := if j < i then .pointer (some ⟨(Q j).pb, 0, none⟩) else .pointer none
def plist (Q : Nat → PoolG) : Nat → List Nat
  | 0 => []
  | i + 1 => plist Q i ++ [(Q i).pb, (Q i).lb, (Q i).mb]
def updQ (Q : Nat → PoolG) (i : Nat) (g : PoolG) : Nat → PoolG := fun j => if j = i then g else Q j
theorem plist_upd (Q : Nat → PoolG) (g : PoolG) (n : Nat) : ∀ i, i ≤ n → plist (updQ Q n g) i = plist Q i
  | 0, _ => rfl
  | i + 1, h => by
    unfold plist
    rw [plist_upd Q g n i (by omega)]
    have : updQ Q n g i = Q i := by unfold updQ; rw [if_neg (by omega)]
    rw [this]
structure PoolsInv (l : List V4) (low high : Int) (B : Nat) (Q : Nat → PoolG) (i : Nat) (w : World) : Prop where
  each : ∀ j, j < i → (Q j).l = l ∧ (Q j).low = low ∧ (Q j).high = high ∧ PoolOk (Q j) ∧ PoolIs (Q j) [] w
  nd : (plist Q i).Nodup
  new : ∀ b ∈ plist Q i, B ≤ b ∧ b < w.heap.size
theorem plist_mem {Q : Nat → PoolG} {j i : Nat} (h : j < i) : (Q j).pb ∈ plist Q i ∧ (Q j).lb ∈ plist Q i ∧ (Q j).mb ∈ plist Q i := by
  induction i with
  | zero => omega
  | succ i ih =>
    unfold plist
    rcases Nat.lt_or_ge j i with h2 | h2
    · obtain ⟨a, b, c⟩ := ih h2
      exact ⟨List.mem_append_left _ a, List.mem_append_left _ b, List.mem_append_left _ c⟩
    · obtain rfl : j = i := by omega
      exact ⟨by simp, by simp, by simp⟩
theorem PoolsInv.kp {l : List V4} {low high : Int} {B : Nat} {Q : Nat → PoolG} {i : Nat} {w w' : World} (h : PoolsInv l low high B Q i w) {F : Nat → Prop} (k : Kp F w w') (hF : ∀ b, F b → b < B) : PoolsInv l low high B Q i w' := by
  have hn : ∀ b ∈ plist Q i, ¬ F b := fun b hb e => by have := (h.new b hb).1; have := hF b e; omega
  refine ⟨fun j hj => ?_, h.nd, fun b hb => ⟨(h.new b hb).1, Nat.lt_of_lt_of_le (h.new b hb).2 k.size⟩⟩
  obtain ⟨h1, h2, h3, h4, h5⟩ := h.each j hj
  obtain ⟨m1, m2, m3⟩ := plist_mem (Q := Q) hj
  exact ⟨h1, h2, h3, h4, h5.kp k (hn _ m1) (hn _ m2) (hn _ m3)⟩
theorem PoolsInv.step {l : List V4} {low high : Int} {B : Nat} {Q : Nat → PoolG} {i : Nat} {w w' : World} {g : PoolG} (h : PoolsInv l low high B Q i w) (hg : NewPool l low high w w' g) (k : K0 w w') (hB : B ≤ w.heap.size) : PoolsInv l low high B (updQ Q i g) (i + 1) w' := by
  have h' := h.kp k (fun _ e => e.elim)
  have hi : updQ Q i g i = g := by unfold updQ; rw [if_pos rfl]
  have hp := plist_upd Q g i i (Nat.le_refl _)
  refine ⟨fun j hj => ?_, ?_, fun b hb => ?_⟩
  · rcases Nat.lt_or_ge j i with h2 | h2
    · have : updQ Q i g j = Q j := by unfold updQ; rw [if_neg (by omega)]
      rw [this]; exact h'.each j h2
    · obtain rfl : j = i := by omega
      rw [hi]; exact ⟨hg.l, hg.low, hg.high, hg.ok, hg.is⟩
  · unfold plist
    rw [hp, hi, List.nodup_append]
    refine ⟨h.nd, ?_, fun a ha b hb => ?_⟩
    · have n1 := hg.pl; have n2 := blk_ne_map hg.is.blk hg.is.map; have n3 := hg.is.row.ne_map hg.is.map
      simp [n1, n2, n3]
    · have h1 := (h.new a ha).2
      have h2 := hg.pb; have h3 := hg.lb; have h4 := hg.mb
      simp at hb
      rcases hb with rfl | rfl | rfl <;> omega
  · unfold plist at hb
    rw [hp, hi] at hb
    rcases List.mem_append.1 hb with hb | hb
    · exact h'.new b hb
    · have h2 := hg.pb; have h3 := hg.lb; have h4 := hg.mb
      have h5 := lt_of_get hg.is.blk; have h6 := hg.is.row.lt; have h7 := hg.is.map.lt
      simp at hb
      rcases hb with rfl | rfl | rfl <;> omega
/-- a table that is new -/
structure NewBib (l : List V4) (low high max : Int) (w w' : World) (g : BibG) : Prop where
  max : g.max = max
  first : l[0]? = some g.first
  ok : BibOk g
  pl : ∀ k, k < 3 → (g.p k).l = l ∧ (g.p k).low = low ∧ (g.p k).high = high
  is : BibIs g ⟨0, [], fun _ => []⟩ w'
  new : ∀ b ∈ g.blocks, w.heap.size ≤ b
theorem newbib {l : List V4} {low high max : Int} {w w1 w2 w' : World} {x1 x2 : IxG} {tb mb : Nat} {first : V4} {Q : Nat → PoolG} {B : Nat}
    (h1 : NewIx max w w1 x1) (h2 : NewIx max w1 w2 x2) (hs : x1.ib < w1.heap.size ∧ x1.sb < w1.heap.size) (hs2 : x2.ib < w2.heap.size ∧ x2.sb < w2.heap.size) (hmb : w2.heap.size ≤ mb) (htb : mb < tb) (hB : tb < B) (hmax : max ≤ 65536)
    (hp : PoolsInv l low high B Q 3 w') (hf : l[0]? = some first)
    (blk : Blk w' tb #[.int .i64 max, .int .i64 0, u8 first.a, u8 first.b, u8 first.c, u8 first.d, .map (some mb), .pointer (some ⟨x1.ib, 0, none⟩), .pointer (some ⟨x2.ib, 0, none⟩), .pointer (some ⟨(Q 0).pb, 0, none⟩), .pointer (some ⟨(Q 1).pb, 0, none⟩), .pointer (some ⟨(Q 2).pb, 0, none⟩)] 95)
    (map : MapAt (fun n : Int => .int .i64 n) (fun p : Nat => Value.pointer (some ⟨p, 0, none⟩)) inI w' mb ([] : List (Int × Nat))) (i1 : IxIs x1 (fun _ => none) 0 w') (i2 : IxIs x2 (fun _ => none) 0 w') (ht : Tb w') (htw : Tb w) : NewBib l low high max w w' ⟨tb, mb, x1, x2, Q, max, first⟩ := by
  have e : (⟨tb, mb, x1, x2, Q, max, first⟩ : BibG).blocks = [tb, mb, x1.ib, x1.sb, x2.ib, x2.sb] ++ plist Q 3 := rfl
  have a1 := h1.ib; have a2 := h1.sb; have a3 := h2.ib; have a4 := h2.sb
  have n1 : x1.ib ≠ x1.sb := by obtain ⟨sl, hr, _⟩ := h1.is; exact hr.ne
  have n2 : x2.ib ≠ x2.sb := by obtain ⟨sl, hr, _⟩ := h2.is; exact hr.ne
  have hw2 : w1.heap.size ≤ w2.heap.size := by omega
  have hnew : ∀ b ∈ (⟨tb, mb, x1, x2, Q, max, first⟩ : BibG).blocks, w.heap.size ≤ b := by
    rw [e]
    intro b hb
    rcases List.mem_append.1 hb with hb | hb
    · simp at hb; rcases hb with rfl | rfl | rfl | rfl | rfl | rfl <;> omega
    · have := (hp.new b hb).1; omega
  refine ⟨rfl, hf, ⟨h1.ok, h2.ok, h1.n, h2.n, hmax, fun k hk => (hp.each k hk).2.2.2.1⟩, fun k hk => ⟨(hp.each k hk).1, (hp.each k hk).2.1, (hp.each k hk).2.2.1⟩, ⟨blk, map, (fun q hq => by cases hq), i1, i2, (fun k hk => (hp.each k hk).2.2.2.2), ht, ?_, ?_⟩, hnew⟩
  · have : bfp ⟨tb, mb, x1, x2, Q, max, first⟩ ⟨0, [], fun _ => []⟩ = [tb, mb, x1.ib, x1.sb, x2.ib, x2.sb] ++ plist Q 3 := by unfold bfp; rw [e]; simp
    rw [this, List.nodup_append]
    refine ⟨?_, hp.nd, fun a ha b hb => ?_⟩
    · simp only [List.nodup_cons, List.mem_cons, List.not_mem_nil, or_false, not_or, not_false_eq_true, List.nodup_nil, and_true]
      omega
    · have := (hp.new b hb).1
      simp at ha
      rcases ha with rfl | rfl | rfl | rfl | rfl | rfl <;> omega
  · have hl := htw.lt
    intro hm
    rcases List.mem_append.1 hm with hm | hm
    · have := hnew _ hm; omega
    · simp at hm
theorem bibnew_spec {b o n c : Nat} {l : List V4} {low high max : Int} {w : World} (hn : n = l.length) (hnc : n ≤ c) (hmax : l.length ≤ 9223372036854775807) (hl : Elts V4.cs 4 w b o l) (hm : -9223372036854775808 ≤ max ∧ max ≤ 9223372036854775807) (hT : Tb w) : Rets Tryd.prog 12 #[(.slice (some ⟨b, o, none⟩) n c), (.int .i64 low), (.int .i64 high), (.int .i64 max)] w fun v w' => ((¬ ((1 ≤ max ∧ max ≤ 65536) ∧ Right l low high) ∧ v = .tuple #[.pointer none, .int .i64 1]) ∨ (((1 ≤ max ∧ max ≤ 65536) ∧ Right l low high) ∧ ∃ g : BibG, v = .tuple #[.pointer (some ⟨g.tb, 0, none⟩), .int .i64 0] ∧ NewBib l low high max w w' g)) ∧ K0 w w' := by
  refine enter Tryd.func12 rfl Tryd.ntmps12 rfl fun Q hret hend E hE => ?_
  have g1 : E 0 = (.slice (some ⟨b, o, none⟩) n c) := hE 0
  have g2 : E 1 = (Vi low) := hE 1
  have g3 : E 2 = (Vi high) := hE 2
  have g4 : E 3 = (Vi max) := hE 3
  clear hE
  refine seq fun K5 hK5 => ?_
  refine reg ?_
  refine s_y (y_assign (v := (.pointer none)) rfl) rfl ?_
  refine s_y (y_assign (v := (Vi 0)) rfl) rfl ?_
  refine s_nil (hK5 _ _ (genC [(0, (.slice (some ⟨b, o, none⟩) n c)), (1, (Vi low)), (2, (Vi high)), (3, (Vi max))] ⟨g1, g2, g3, g4, trivial⟩ ?_))
  clear hK5; rintro E ⟨g6, g7, g8, g9, -⟩
  refine seq fun K10 hK10 => ?_
  refine reg ?_
  refine s_y (y_move (v := (Vi max)) g9) rfl ?_
  refine s_e (e_call ca44 (args := [(Vi max)]) rfl (ixnew_spec max _ hm)) rfl ?_
  rintro _ w11 ⟨⟨hx14, rfl⟩ | ⟨hx14, x13, rfl, hnx15⟩, hk12⟩
  · have ka16 : Kp (fun _ => False) w w11 := (Kp.then0 (Kp.refl _ _) hk12)
    refine s_y (y_move (v := (.tuple #[(.pointer none), (Vi 1)])) rfl) rfl ?_
    refine s_y (y_ext rfl (v := (.pointer none)) rfl) rfl ?_
    refine s_y (y_ext rfl (v := (Vi 1)) rfl) rfl ?_
    refine s_y (y_assign (v := (.pointer none)) rfl) rfl ?_
    refine s_y (y_assign (v := (Vi 1)) rfl) rfl ?_
    refine s_nil (hK10 _ _ (genC [(0, (.slice (some ⟨b, o, none⟩) n c)), (1, (Vi low)), (2, (Vi high)), (3, (Vi max)), (10, (.pointer none)), (11, (Vi 1))] ⟨g6, g7, g8, g9, rfl, rfl, trivial⟩ ?_))
    clear hK10; rintro E ⟨g17, g18, g19, g20, g21, g22, -⟩
    refine seq fun K23 hK23 => ?_
    refine reg ?_
    refine s_y (y_move (v := (Vi max)) g20) rfl ?_
    refine s_e (e_call ca44 (args := [(Vi max)]) rfl (ixnew_spec max _ hm)) rfl ?_
    rintro _ w24 ⟨⟨hx27, rfl⟩ | ⟨hx27, x26, rfl, hnx28⟩, hk25⟩
    · have ka29 := (Kp.then0 ka16 hk25)
      refine s_y (y_move (v := (.tuple #[(.pointer none), (Vi 1)])) rfl) rfl ?_
      refine s_y (y_ext rfl (v := (.pointer none)) rfl) rfl ?_
      refine s_y (y_ext rfl (v := (Vi 1)) rfl) rfl ?_
      refine s_y (y_assign (v := (.pointer none)) rfl) rfl ?_
      refine s_y (y_assign (v := (Vi 1)) rfl) rfl ?_
      refine s_nil (hK23 _ _ (genC [(0, (.slice (some ⟨b, o, none⟩) n c)), (1, (Vi low)), (2, (Vi high)), (3, (Vi max)), (10, (.pointer none)), (11, (Vi 1)), (12, (.pointer none)), (13, (Vi 1))] ⟨g17, g18, g19, g20, g21, g22, rfl, rfl, trivial⟩ ?_))
      clear hK23; rintro E ⟨g30, g31, g32, g33, g34, g35, g36, g37, -⟩
      refine seq fun K38 hK38 => ?_
      refine seq fun K39 hK39 => ?_
      refine reg ?_
      refine s_y (y_move (v := (Vi 1)) g35) rfl ?_
      refine s_y (y_neq rfl rfl) rfl ?_
      refine s_y (y_move (v := Vt) rfl) rfl ?_
      refine s_no (.no rfl (c := true) rfl rfl) rfl ?_
      refine s_no (.no rfl (c := true) rfl rfl) rfl ?_
      refine s_y (y_pick_t rfl (v := Vt) rfl) rfl ?_
      refine s_nil (hK39 _ _ (genC [(0, (.slice (some ⟨b, o, none⟩) n c)), (1, (Vi low)), (2, (Vi high)), (3, (Vi max)), (10, (.pointer none)), (12, (.pointer none)), (33, Vt)] ⟨g30, g31, g32, g33, g34, g36, rfl, trivial⟩ ?_))
      clear hK39; rintro E ⟨g40, g41, g42, g43, g44, g45, g46, -⟩
      refine cond_t g46 ?_
      refine seq fun K47 hK47 => ?_
      refine reg ?_
      refine s_y (y_assign (v := (.pointer none)) rfl) rfl ?_
      refine s_y (y_assign (v := (Vi 1)) rfl) rfl ?_
      refine s_nil (hK47 _ _ (genC [(8, (.pointer none)), (9, (Vi 1))] ⟨rfl, rfl, trivial⟩ ?_))
      clear hK47; rintro E ⟨g48, g49, -⟩
      refine ret (hret _ _ [(.pointer none), (Vi 1)] ⟨g48, g49, trivial⟩ ?_)
      exact ⟨.inl ⟨fun hc => hx27 hc.1, rfl⟩, ka29⟩
    · have ka50 := (Kp.then0 ka16 hk25)
      refine s_y (y_move (v := (.tuple #[(Vp x26.ib 0), (Vi 0)])) rfl) rfl ?_
      refine s_y (y_ext rfl (v := (Vp x26.ib 0)) rfl) rfl ?_
      refine s_y (y_ext rfl (v := (Vi 0)) rfl) rfl ?_
      refine s_y (y_assign (v := (Vp x26.ib 0)) rfl) rfl ?_
      refine s_y (y_assign (v := (Vi 0)) rfl) rfl ?_
      refine s_nil (hK23 _ _ (genC [(0, (.slice (some ⟨b, o, none⟩) n c)), (1, (Vi low)), (2, (Vi high)), (3, (Vi max)), (10, (.pointer none)), (11, (Vi 1)), (12, (Vp x26.ib 0)), (13, (Vi 0))] ⟨g17, g18, g19, g20, g21, g22, rfl, rfl, trivial⟩ ?_))
      clear hK23; rintro E ⟨g51, g52, g53, g54, g55, g56, g57, g58, -⟩
      refine seq fun K59 hK59 => ?_
      refine seq fun K60 hK60 => ?_
      refine reg ?_
      refine s_y (y_move (v := (Vi 1)) g56) rfl ?_
      refine s_y (y_neq rfl rfl) rfl ?_
      refine s_y (y_move (v := Vt) rfl) rfl ?_
      refine s_no (.no rfl (c := true) rfl rfl) rfl ?_
      refine s_no (.no rfl (c := true) rfl rfl) rfl ?_
      refine s_y (y_pick_t rfl (v := Vt) rfl) rfl ?_
      refine s_nil (hK60 _ _ (genC [(0, (.slice (some ⟨b, o, none⟩) n c)), (1, (Vi low)), (2, (Vi high)), (3, (Vi max)), (10, (.pointer none)), (12, (Vp x26.ib 0)), (33, Vt)] ⟨g51, g52, g53, g54, g55, g57, rfl, trivial⟩ ?_))
      clear hK60; rintro E ⟨g61, g62, g63, g64, g65, g66, g67, -⟩
      refine cond_t g67 ?_
      refine seq fun K68 hK68 => ?_
      refine reg ?_
      refine s_y (y_assign (v := (.pointer none)) rfl) rfl ?_
      refine s_y (y_assign (v := (Vi 1)) rfl) rfl ?_
      refine s_nil (hK68 _ _ (genC [(8, (.pointer none)), (9, (Vi 1))] ⟨rfl, rfl, trivial⟩ ?_))
      clear hK68; rintro E ⟨g69, g70, -⟩
      refine ret (hret _ _ [(.pointer none), (Vi 1)] ⟨g69, g70, trivial⟩ ?_)
      exact ⟨.inl ⟨fun hc => hx14 hc.1, rfl⟩, ka50⟩
  · have ka71 : Kp (fun _ => False) w w11 := (Kp.then0 (Kp.refl _ _) hk12)
    refine s_y (y_move (v := (.tuple #[(Vp x13.ib 0), (Vi 0)])) rfl) rfl ?_
    refine s_y (y_ext rfl (v := (Vp x13.ib 0)) rfl) rfl ?_
    refine s_y (y_ext rfl (v := (Vi 0)) rfl) rfl ?_
    refine s_y (y_assign (v := (Vp x13.ib 0)) rfl) rfl ?_
    refine s_y (y_assign (v := (Vi 0)) rfl) rfl ?_
    refine s_nil (hK10 _ _ (genC [(0, (.slice (some ⟨b, o, none⟩) n c)), (1, (Vi low)), (2, (Vi high)), (3, (Vi max)), (10, (Vp x13.ib 0)), (11, (Vi 0))] ⟨g6, g7, g8, g9, rfl, rfl, trivial⟩ ?_))
    clear hK10; rintro E ⟨g72, g73, g74, g75, g76, g77, -⟩
    refine seq fun K78 hK78 => ?_
    refine reg ?_
    refine s_y (y_move (v := (Vi max)) g75) rfl ?_
    refine s_e (e_call ca44 (args := [(Vi max)]) rfl (ixnew_spec max _ hm)) rfl ?_
    rintro _ w79 ⟨⟨hx82, rfl⟩ | ⟨hx82, x81, rfl, hnx83⟩, hk80⟩
    · have ka84 := (Kp.then0 ka71 hk80)
      refine s_y (y_move (v := (.tuple #[(.pointer none), (Vi 1)])) rfl) rfl ?_
      refine s_y (y_ext rfl (v := (.pointer none)) rfl) rfl ?_
      refine s_y (y_ext rfl (v := (Vi 1)) rfl) rfl ?_
      refine s_y (y_assign (v := (.pointer none)) rfl) rfl ?_
      refine s_y (y_assign (v := (Vi 1)) rfl) rfl ?_
      refine s_nil (hK78 _ _ (genC [(0, (.slice (some ⟨b, o, none⟩) n c)), (1, (Vi low)), (2, (Vi high)), (3, (Vi max)), (10, (Vp x13.ib 0)), (11, (Vi 0)), (12, (.pointer none)), (13, (Vi 1))] ⟨g72, g73, g74, g75, g76, g77, rfl, rfl, trivial⟩ ?_))
      clear hK78; rintro E ⟨g85, g86, g87, g88, g89, g90, g91, g92, -⟩
      refine seq fun K93 hK93 => ?_
      refine seq fun K94 hK94 => ?_
      refine reg ?_
      refine s_y (y_move (v := (Vi 0)) g90) rfl ?_
      refine s_y (y_neq rfl rfl) rfl ?_
      refine s_y (y_move (v := Vf) rfl) rfl ?_
      refine s_gy (.yes rfl rfl) (y_move (v := (Vi 1)) g92) rfl ?_
      refine s_gy (.yes rfl rfl) (y_neq rfl rfl) rfl ?_
      refine s_y (y_pick_f rfl (v := Vt) rfl) rfl ?_
      refine s_nil (hK94 _ _ (genC [(0, (.slice (some ⟨b, o, none⟩) n c)), (1, (Vi low)), (2, (Vi high)), (3, (Vi max)), (10, (Vp x13.ib 0)), (12, (.pointer none)), (33, Vt)] ⟨g85, g86, g87, g88, g89, g91, rfl, trivial⟩ ?_))
      clear hK94; rintro E ⟨g95, g96, g97, g98, g99, g100, g101, -⟩
      refine cond_t g101 ?_
      refine seq fun K102 hK102 => ?_
      refine reg ?_
      refine s_y (y_assign (v := (.pointer none)) rfl) rfl ?_
      refine s_y (y_assign (v := (Vi 1)) rfl) rfl ?_
      refine s_nil (hK102 _ _ (genC [(8, (.pointer none)), (9, (Vi 1))] ⟨rfl, rfl, trivial⟩ ?_))
      clear hK102; rintro E ⟨g103, g104, -⟩
      refine ret (hret _ _ [(.pointer none), (Vi 1)] ⟨g103, g104, trivial⟩ ?_)
      exact ⟨.inl ⟨fun hc => hx82 hc.1, rfl⟩, ka84⟩
    · have ka105 := (Kp.then0 ka71 hk80)
      refine s_y (y_move (v := (.tuple #[(Vp x81.ib 0), (Vi 0)])) rfl) rfl ?_
      refine s_y (y_ext rfl (v := (Vp x81.ib 0)) rfl) rfl ?_
      refine s_y (y_ext rfl (v := (Vi 0)) rfl) rfl ?_
      refine s_y (y_assign (v := (Vp x81.ib 0)) rfl) rfl ?_
      refine s_y (y_assign (v := (Vi 0)) rfl) rfl ?_
      refine s_nil (hK78 _ _ (genC [(0, (.slice (some ⟨b, o, none⟩) n c)), (1, (Vi low)), (2, (Vi high)), (3, (Vi max)), (10, (Vp x13.ib 0)), (11, (Vi 0)), (12, (Vp x81.ib 0)), (13, (Vi 0))] ⟨g72, g73, g74, g75, g76, g77, rfl, rfl, trivial⟩ ?_))
      clear hK78; rintro E ⟨g106, g107, g108, g109, g110, g111, g112, g113, -⟩
      refine seq fun K114 hK114 => ?_
      refine seq fun K115 hK115 => ?_
      refine reg ?_
      refine s_y (y_move (v := (Vi 0)) g111) rfl ?_
      refine s_y (y_neq rfl rfl) rfl ?_
      refine s_y (y_move (v := Vf) rfl) rfl ?_
      refine s_gy (.yes rfl rfl) (y_move (v := (Vi 0)) g113) rfl ?_
      refine s_gy (.yes rfl rfl) (y_neq rfl rfl) rfl ?_
      refine s_y (y_pick_f rfl (v := Vf) rfl) rfl ?_
      refine s_nil (hK115 _ _ (genC [(0, (.slice (some ⟨b, o, none⟩) n c)), (1, (Vi low)), (2, (Vi high)), (3, (Vi max)), (10, (Vp x13.ib 0)), (12, (Vp x81.ib 0)), (33, Vf)] ⟨g106, g107, g108, g109, g110, g112, rfl, trivial⟩ ?_))
      clear hK115; rintro E ⟨g116, g117, g118, g119, g120, g121, g122, -⟩
      refine cond_f g122 ?_
      refine skip (hK114 _ _ (genC [(0, (.slice (some ⟨b, o, none⟩) n c)), (1, (Vi low)), (2, (Vi high)), (3, (Vi max)), (10, (Vp x13.ib 0)), (12, (Vp x81.ib 0))] ⟨g116, g117, g118, g119, g120, g121, trivial⟩ ?_))
      clear hK114; rintro E ⟨g123, g124, g125, g126, g127, g128, -⟩
      refine seq fun K129 hK129 => ?_
      refine reg ?_
      refine s_y (y_move (v := (Vi max)) g126) rfl ?_
      refine s_e e_makeMap rfl ?_
      rintro _ w130 ⟨rfl, hm131, hk132⟩
      have ka133 := (Kp.then0 ka105 hk132)
      have hmm9 : MapAt (fun n : Int => Value.int .i64 n) (fun p : Nat => Value.pointer (some ⟨p, 0, none⟩)) inI w130 w79.heap.size ([] : List (Int × Nat)) := MapAt.new hm131
      refine s_y (y_move (v := (Vp x13.ib 0)) g127) rfl ?_
      refine s_y (y_move (v := (Vp x81.ib 0)) g128) rfl ?_
      refine s_y (y_build (vs := [(0, (Vi max)), (3, (.map (some w79.heap.size))), (4, (Vp x13.ib 0)), (5, (Vp x81.ib 0))]) (v := (.agg #[.int .i64 max, .int .i64 0, U0, U0, U0, U0, .map (some w79.heap.size), .pointer (some ⟨x13.ib, 0, none⟩), .pointer (some ⟨x81.ib, 0, none⟩), .pointer none, .pointer none, .pointer none])) rfl (fun _ => by kernel_rfl)) rfl ?_
      refine s_e (e_box (v := (.agg #[.int .i64 max, .int .i64 0, U0, U0, U0, U0, .map (some w79.heap.size), .pointer (some ⟨x13.ib, 0, none⟩), .pointer (some ⟨x81.ib, 0, none⟩), .pointer none, .pointer none, .pointer none])) rfl) rfl ?_
      rintro _ w134 ⟨rfl, hb135, hk136⟩
      have ka137 := (Kp.then0 ka133 hk136)
      refine s_y (y_assign (v := (Vp w130.heap.size 0)) rfl) rfl ?_
      refine s_nil (hK129 _ _ (genC [(0, (.slice (some ⟨b, o, none⟩) n c)), (1, (Vi low)), (2, (Vi high)), (14, (Vp w130.heap.size 0))] ⟨g123, g124, g125, rfl, trivial⟩ ?_))
      clear hK129; rintro E ⟨g138, g139, g140, g141, -⟩
      refine seq fun K142 hK142 => ?_
      refine seq fun K143 hK143 => ?_
      refine reg ?_
      refine s_y (y_move (v := (Vi 0)) rfl) rfl ?_
      refine s_nil (hK143 _ _ (genC [(0, (.slice (some ⟨b, o, none⟩) n c)), (1, (Vi low)), (2, (Vi high)), (14, (Vp w130.heap.size 0)), (40, (Vi 0))] ⟨g138, g139, g140, g141, rfl, trivial⟩ ?_))
      clear hK143; rintro E ⟨g144, g145, g146, g147, g148, -⟩
      refine block ?_
      refine loopG (X := Nat × (Nat → PoolG)) (fun q_ E w_ => Has E [(0, (.slice (some ⟨b, o, none⟩) n c)), (1, (Vi low)), (2, (Vi high)), (14, (Vp w130.heap.size 0)), (40, (Vi (((q_.1 : Nat) : Int))))] ∧ Kp (· = w130.heap.size) w134 w_ ∧ (q_.1 ≤ 3) ∧ (Blk w_ w130.heap.size #[(Vi max), (Vi 0), U0, U0, U0, U0, (.map (some w79.heap.size)), (Vp x13.ib 0), (Vp x81.ib 0), pc q_.2 q_.1 0, pc q_.2 q_.1 1, pc q_.2 q_.1 2] 95) ∧ (PoolsInv l low high w134.heap.size q_.2 q_.1 w_) ∧ (0 < q_.1 → Right l low high)) (fun q_ => (3 - q_.1)) (0, (fun _ => ⟨0, 0, 0, 0, [], 0, 0⟩)) ⟨⟨g144, g145, g146, g147, g148, trivial⟩, Kp.refl _ _, (show 0 ≤ 3 from (by omega)), (show Blk w134 w130.heap.size #[(Vi max), (Vi 0), U0, U0, U0, U0, (.map (some w79.heap.size)), (Vp x13.ib 0), (Vp x81.ib 0), pc (fun _ => ⟨0, 0, 0, 0, [], 0, 0⟩) 0 0, pc (fun _ => ⟨0, 0, 0, 0, [], 0, 0⟩) 0 1, pc (fun _ => ⟨0, 0, 0, 0, [], 0, 0⟩) 0 2] 95 from hb135), (show PoolsInv l low high w134.heap.size (fun _ => ⟨0, 0, 0, 0, [], 0, 0⟩) 0 w134 from ⟨fun j hj => by omega, List.nodup_nil, fun b hb => by cases hb⟩), (show 0 < 0 → Right l low high from (fun h => by omega))⟩ ?_
      rintro ⟨i, Q⟩ E w154 ⟨⟨g149, g150, g151, g152, g153, -⟩, hk155, hi157, hi158, hi159, hi160⟩ K156 hK156
      replace g149 : E 0 = (.slice (some ⟨b, o, none⟩) n c) := g149
      replace g150 : E 1 = (Vi low) := g150
      replace g151 : E 2 = (Vi high) := g151
      replace g152 : E 14 = (Vp w130.heap.size 0) := g152
      replace g153 : E 40 = (Vi (((i : Nat) : Int))) := g153
      replace hi157 : i ≤ 3 := hi157
      replace hi158 : Blk w154 w130.heap.size #[(Vi max), (Vi 0), U0, U0, U0, U0, (.map (some w79.heap.size)), (Vp x13.ib 0), (Vp x81.ib 0), pc Q i 0, pc Q i 1, pc Q i 2] 95 := hi158
      replace hi159 : PoolsInv l low high w134.heap.size Q i w154 := hi159
      replace hi160 : 0 < i → Right l low high := hi160
      have hz162 := (nl (nl hk12.size hk80.size) hk132.size)
      have ka161 := (Kp.fresh ka137 hk155 fun _ e => nl (nl hz162 (Nat.le_refl _)) (Nat.le_of_eq e.symm))
      refine seq fun K163 hK163 => ?_
      refine reg ?_
      refine s_y (y_lss g153 rfl) rfl ?_
      refine s_nil (hK163 _ _ (genC [(0, (.slice (some ⟨b, o, none⟩) n c)), (1, (Vi low)), (2, (Vi high)), (14, (Vp w130.heap.size 0)), (40, (Vi (((i : Nat) : Int)))), (41, (.bool (decide ((((i : Nat) : Int) : Int) < 3))))] ⟨g149, g150, g151, g152, g153, rfl, trivial⟩ ?_))
      clear hK163; rintro E ⟨g164, g165, g166, g167, g168, g169, -⟩
      refine seq fun K170 hK170 => ?_
      refine cond_d g169 (fun c171 => ?_) (fun c171 => ?_)
      · have hi012 : i = 0 ∨ i = 1 ∨ i = 2 := by omega
        rcases hi012 with hik | hik | hik
        · have hbk172 : Blk w154 w130.heap.size #[(Vi max), (Vi 0), U0, U0, U0, U0, (.map (some w79.heap.size)), (Vp x13.ib 0), (Vp x81.ib 0), (.pointer none), (.pointer none), (.pointer none)] 95 := by have h9 := hi158; rw [hik] at h9; exact h9
          have hpik := hi159; rw [hik] at hpik
          refine skip (hK170 _ _ (genC [(0, (.slice (some ⟨b, o, none⟩) n c)), (1, (Vi low)), (2, (Vi high)), (14, (Vp w130.heap.size 0)), (40, (Vi 0))] ⟨g164, g165, g166, g167, (Eq.trans g168 (by rw [hik]; rfl)), trivial⟩ ?_))
          clear hK170; rintro E ⟨g173, g174, g175, g176, g177, -⟩
          refine seq fun K178 hK178 => ?_
          refine block ?_
          refine seq fun K179 hK179 => ?_
          refine reg ?_
          refine s_y (y_move (v := (Vi 0)) g177) rfl ?_
          refine s_y (y_assign (v := (Vi 0)) rfl) rfl ?_
          refine s_nil (hK179 _ _ (genC [(0, (.slice (some ⟨b, o, none⟩) n c)), (1, (Vi low)), (2, (Vi high)), (14, (Vp w130.heap.size 0)), (15, (Vi 0)), (40, (Vi 0))] ⟨g173, g174, g175, g176, rfl, g177, trivial⟩ ?_))
          clear hK179; rintro E ⟨g180, g181, g182, g183, g184, g185, -⟩
          refine seq fun K186 hK186 => ?_
          refine reg ?_
          refine s_y (y_move (v := (.slice (some ⟨b, o, none⟩) n c)) g180) rfl ?_
          refine s_y (y_move (v := (Vi low)) g181) rfl ?_
          refine s_y (y_move (v := (Vi high)) g182) rfl ?_
          have hf187 := (((((hl.kp hk12 id).kp hk80 id).kp hk132 id).kp hk136 id).kp hk155 (Nat.ne_of_lt (nt (nt (hl.lt) hz162) (Nat.le_refl _))))
          refine s_e (e_call ca45 (args := [(.slice (some ⟨b, o, none⟩) n c), (Vi low), (Vi high)]) rfl (poolnew_spec hn hnc hmax hf187)) rfl ?_
          rintro _ w188 ⟨⟨hx191, rfl⟩ | ⟨hx191, pg190, rfl, hnp192⟩, hk189⟩
          · have ka193 := (Kp.then0 ka161 hk189)
            refine s_y (y_move (v := (.tuple #[(.pointer none), (Vi 1)])) rfl) rfl ?_
            refine s_y (y_ext rfl (v := (.pointer none)) rfl) rfl ?_
            refine s_y (y_ext rfl (v := (Vi 1)) rfl) rfl ?_
            refine s_y (y_assign (v := (.pointer none)) rfl) rfl ?_
            refine s_y (y_assign (v := (Vi 1)) rfl) rfl ?_
            refine s_nil (hK186 _ _ (genC [(0, (.slice (some ⟨b, o, none⟩) n c)), (1, (Vi low)), (2, (Vi high)), (14, (Vp w130.heap.size 0)), (15, (Vi 0)), (16, (.pointer none)), (17, (Vi 1)), (40, (Vi 0))] ⟨g180, g181, g182, g183, g184, rfl, rfl, g185, trivial⟩ ?_))
            clear hK186; rintro E ⟨g194, g195, g196, g197, g198, g199, g200, g201, -⟩
            refine seq fun K202 hK202 => ?_
            refine seq fun K203 hK203 => ?_
            refine reg ?_
            refine s_y (y_move (v := (Vi 1)) g200) rfl ?_
            refine s_y (y_neq rfl rfl) rfl ?_
            refine s_nil (hK203 _ _ (genC [(0, (.slice (some ⟨b, o, none⟩) n c)), (1, (Vi low)), (2, (Vi high)), (14, (Vp w130.heap.size 0)), (15, (Vi 0)), (16, (.pointer none)), (17, (Vi 1)), (40, (Vi 0)), (51, Vt)] ⟨g194, g195, g196, g197, g198, g199, g200, g201, rfl, trivial⟩ ?_))
            clear hK203; rintro E ⟨g204, g205, g206, g207, g208, g209, g210, g211, g212, -⟩
            refine cond_t g212 ?_
            refine seq fun K213 hK213 => ?_
            refine reg ?_
            refine s_y (y_move (v := (Vi 1)) g210) rfl ?_
            refine s_y (y_assign (v := (.pointer none)) rfl) rfl ?_
            refine s_y (y_assign (v := (Vi 1)) rfl) rfl ?_
            refine s_nil (hK213 _ _ (genC [(8, (.pointer none)), (9, (Vi 1))] ⟨rfl, rfl, trivial⟩ ?_))
            clear hK213; rintro E ⟨g214, g215, -⟩
            refine ret (hret _ _ [(.pointer none), (Vi 1)] ⟨g214, g215, trivial⟩ ?_)
            exact ⟨.inl ⟨fun hc => hx191 hc.2, rfl⟩, ka193⟩
          · have hst9 := PoolsInv.step hpik hnp192 hk189 (by exact hk155.size)
            have ka216 := (Kp.then0 ka161 hk189)
            refine s_y (y_move (v := (.tuple #[(Vp pg190.pb 0), (Vi 0)])) rfl) rfl ?_
            refine s_y (y_ext rfl (v := (Vp pg190.pb 0)) rfl) rfl ?_
            refine s_y (y_ext rfl (v := (Vi 0)) rfl) rfl ?_
            refine s_y (y_assign (v := (Vp pg190.pb 0)) rfl) rfl ?_
            refine s_y (y_assign (v := (Vi 0)) rfl) rfl ?_
            refine s_nil (hK186 _ _ (genC [(0, (.slice (some ⟨b, o, none⟩) n c)), (1, (Vi low)), (2, (Vi high)), (14, (Vp w130.heap.size 0)), (15, (Vi 0)), (16, (Vp pg190.pb 0)), (17, (Vi 0)), (40, (Vi 0))] ⟨g180, g181, g182, g183, g184, rfl, rfl, g185, trivial⟩ ?_))
            clear hK186; rintro E ⟨g217, g218, g219, g220, g221, g222, g223, g224, -⟩
            refine seq fun K225 hK225 => ?_
            refine seq fun K226 hK226 => ?_
            refine reg ?_
            refine s_y (y_move (v := (Vi 0)) g223) rfl ?_
            refine s_y (y_neq rfl rfl) rfl ?_
            refine s_nil (hK226 _ _ (genC [(0, (.slice (some ⟨b, o, none⟩) n c)), (1, (Vi low)), (2, (Vi high)), (14, (Vp w130.heap.size 0)), (15, (Vi 0)), (16, (Vp pg190.pb 0)), (17, (Vi 0)), (40, (Vi 0)), (51, Vf)] ⟨g217, g218, g219, g220, g221, g222, g223, g224, rfl, trivial⟩ ?_))
            clear hK226; rintro E ⟨g227, g228, g229, g230, g231, g232, g233, g234, g235, -⟩
            refine cond_f g235 ?_
            refine skip (hK225 _ _ (genC [(0, (.slice (some ⟨b, o, none⟩) n c)), (1, (Vi low)), (2, (Vi high)), (14, (Vp w130.heap.size 0)), (15, (Vi 0)), (16, (Vp pg190.pb 0)), (40, (Vi 0))] ⟨g227, g228, g229, g230, g231, g232, g234, trivial⟩ ?_))
            clear hK225; rintro E ⟨g236, g237, g238, g239, g240, g241, g242, -⟩
            refine reg ?_
            refine s_y (y_move (v := (Vp w130.heap.size 0)) g239) rfl ?_
            refine s_y (y_move (v := (Vi 0)) g240) rfl ?_
            refine s_y (y_move (v := (Vp pg190.pb 0)) g241) rfl ?_
            refine s_y (y_nil rfl) rfl ?_
            refine s_y (y_fld fo95_6 rfl) rfl ?_
            refine s_y (y_idxA ao93 sz92 rfl (i := 0) rfl (by omega)) rfl ?_
            have hb243 := (hk189.get0 hbk172)
            refine s_e0 (e_storeV (cs' := #[(Vi max), (Vi 0), U0, U0, U0, U0, (.map (some w79.heap.size)), (Vp x13.ib 0), (Vp x81.ib 0), (Vp pg190.pb 0), (.pointer none), (.pointer none)]) [(Vp pg190.pb 0)] rfl (v := (Vp pg190.pb 0)) rfl rfl sz92 hb243 rfl rfl rfl) ?_
            rintro _ w244 ⟨hb245, hk246⟩
            have ka247 := (Kp.fresh ka216 hk246 fun _ e => nl (nl hz162 (Nat.le_refl _)) (Nat.le_of_eq e.symm))
            refine s_nil (hK178 _ _ (genC [(0, (.slice (some ⟨b, o, none⟩) n c)), (1, (Vi low)), (2, (Vi high)), (14, (Vp w130.heap.size 0)), (40, (Vi 0))] ⟨g236, g237, g238, g239, g242, trivial⟩ ?_))
            clear hK178; rintro E ⟨g248, g249, g250, g251, g252, -⟩
            refine reg ?_
            refine s_y (y_add g252 rfl (c := 1) (by decide) rfl) rfl ?_
            refine s_y (y_move (v := (Vi 1)) rfl) rfl ?_
            have hpi253 := PoolsInv.kp hst9 hk246 (fun b e => e ▸ (lt_of_get hb135))
            have kc254 : Kp (· = w130.heap.size) w134 w154 := (Kp.trans (Kp.refl _ _) hk155 (fun _ _ e => e))
            have kc255 : Kp (· = w130.heap.size) w134 w188 := (Kp.then0 kc254 hk189)
            have kc256 : Kp (· = w130.heap.size) w134 w244 := (Kp.trans kc255 hk246 (fun _ _ e => e))
            exact s_nil (hK156 ((0 + 1), (updQ Q 0 pg190)) _ _ ⟨⟨g248, g249, g250, g251, rfl, trivial⟩, kc256, (show (0 + 1) ≤ 3 from (by omega)), (show Blk w244 w130.heap.size #[(Vi max), (Vi 0), U0, U0, U0, U0, (.map (some w79.heap.size)), (Vp x13.ib 0), (Vp x81.ib 0), pc (updQ Q 0 pg190) (0 + 1) 0, pc (updQ Q 0 pg190) (0 + 1) 1, pc (updQ Q 0 pg190) (0 + 1) 2] 95 from hb245), (show PoolsInv l low high w134.heap.size (updQ Q 0 pg190) (0 + 1) w244 from hpi253), (show 0 < (0 + 1) → Right l low high from (fun _ => hx191))⟩ (by show (3 - (0 + 1)) < (3 - i); omega))
        · have hbk257 : Blk w154 w130.heap.size #[(Vi max), (Vi 0), U0, U0, U0, U0, (.map (some w79.heap.size)), (Vp x13.ib 0), (Vp x81.ib 0), (Vp ((Q 0).pb) 0), (.pointer none), (.pointer none)] 95 := by have h9 := hi158; rw [hik] at h9; exact h9
          have hpik := hi159; rw [hik] at hpik
          refine skip (hK170 _ _ (genC [(0, (.slice (some ⟨b, o, none⟩) n c)), (1, (Vi low)), (2, (Vi high)), (14, (Vp w130.heap.size 0)), (40, (Vi 1))] ⟨g164, g165, g166, g167, (Eq.trans g168 (by rw [hik]; rfl)), trivial⟩ ?_))
          clear hK170; rintro E ⟨g258, g259, g260, g261, g262, -⟩
          refine seq fun K263 hK263 => ?_
          refine block ?_
          refine seq fun K264 hK264 => ?_
          refine reg ?_
          refine s_y (y_move (v := (Vi 1)) g262) rfl ?_
          refine s_y (y_assign (v := (Vi 1)) rfl) rfl ?_
          refine s_nil (hK264 _ _ (genC [(0, (.slice (some ⟨b, o, none⟩) n c)), (1, (Vi low)), (2, (Vi high)), (14, (Vp w130.heap.size 0)), (15, (Vi 1)), (40, (Vi 1))] ⟨g258, g259, g260, g261, rfl, g262, trivial⟩ ?_))
          clear hK264; rintro E ⟨g265, g266, g267, g268, g269, g270, -⟩
          refine seq fun K271 hK271 => ?_
          refine reg ?_
          refine s_y (y_move (v := (.slice (some ⟨b, o, none⟩) n c)) g265) rfl ?_
          refine s_y (y_move (v := (Vi low)) g266) rfl ?_
          refine s_y (y_move (v := (Vi high)) g267) rfl ?_
          have hf272 := (((((hl.kp hk12 id).kp hk80 id).kp hk132 id).kp hk136 id).kp hk155 (Nat.ne_of_lt (nt (nt (hl.lt) hz162) (Nat.le_refl _))))
          refine s_e (e_call ca45 (args := [(.slice (some ⟨b, o, none⟩) n c), (Vi low), (Vi high)]) rfl (poolnew_spec hn hnc hmax hf272)) rfl ?_
          rintro _ w273 ⟨⟨hx276, rfl⟩ | ⟨hx276, pg275, rfl, hnp277⟩, hk274⟩
          · have ka278 := (Kp.then0 ka161 hk274)
            refine s_y (y_move (v := (.tuple #[(.pointer none), (Vi 1)])) rfl) rfl ?_
            refine s_y (y_ext rfl (v := (.pointer none)) rfl) rfl ?_
            refine s_y (y_ext rfl (v := (Vi 1)) rfl) rfl ?_
            refine s_y (y_assign (v := (.pointer none)) rfl) rfl ?_
            refine s_y (y_assign (v := (Vi 1)) rfl) rfl ?_
            refine s_nil (hK271 _ _ (genC [(0, (.slice (some ⟨b, o, none⟩) n c)), (1, (Vi low)), (2, (Vi high)), (14, (Vp w130.heap.size 0)), (15, (Vi 1)), (16, (.pointer none)), (17, (Vi 1)), (40, (Vi 1))] ⟨g265, g266, g267, g268, g269, rfl, rfl, g270, trivial⟩ ?_))
            clear hK271; rintro E ⟨g279, g280, g281, g282, g283, g284, g285, g286, -⟩
            refine seq fun K287 hK287 => ?_
            refine seq fun K288 hK288 => ?_
            refine reg ?_
            refine s_y (y_move (v := (Vi 1)) g285) rfl ?_
            refine s_y (y_neq rfl rfl) rfl ?_
            refine s_nil (hK288 _ _ (genC [(0, (.slice (some ⟨b, o, none⟩) n c)), (1, (Vi low)), (2, (Vi high)), (14, (Vp w130.heap.size 0)), (15, (Vi 1)), (16, (.pointer none)), (17, (Vi 1)), (40, (Vi 1)), (51, Vt)] ⟨g279, g280, g281, g282, g283, g284, g285, g286, rfl, trivial⟩ ?_))
            clear hK288; rintro E ⟨g289, g290, g291, g292, g293, g294, g295, g296, g297, -⟩
            refine cond_t g297 ?_
            refine seq fun K298 hK298 => ?_
            refine reg ?_
            refine s_y (y_move (v := (Vi 1)) g295) rfl ?_
            refine s_y (y_assign (v := (.pointer none)) rfl) rfl ?_
            refine s_y (y_assign (v := (Vi 1)) rfl) rfl ?_
            refine s_nil (hK298 _ _ (genC [(8, (.pointer none)), (9, (Vi 1))] ⟨rfl, rfl, trivial⟩ ?_))
            clear hK298; rintro E ⟨g299, g300, -⟩
            refine ret (hret _ _ [(.pointer none), (Vi 1)] ⟨g299, g300, trivial⟩ ?_)
            exact ⟨.inl ⟨fun hc => hx276 hc.2, rfl⟩, ka278⟩
          · have hst9 := PoolsInv.step hpik hnp277 hk274 (by exact hk155.size)
            have ka301 := (Kp.then0 ka161 hk274)
            refine s_y (y_move (v := (.tuple #[(Vp pg275.pb 0), (Vi 0)])) rfl) rfl ?_
            refine s_y (y_ext rfl (v := (Vp pg275.pb 0)) rfl) rfl ?_
            refine s_y (y_ext rfl (v := (Vi 0)) rfl) rfl ?_
            refine s_y (y_assign (v := (Vp pg275.pb 0)) rfl) rfl ?_
            refine s_y (y_assign (v := (Vi 0)) rfl) rfl ?_
            refine s_nil (hK271 _ _ (genC [(0, (.slice (some ⟨b, o, none⟩) n c)), (1, (Vi low)), (2, (Vi high)), (14, (Vp w130.heap.size 0)), (15, (Vi 1)), (16, (Vp pg275.pb 0)), (17, (Vi 0)), (40, (Vi 1))] ⟨g265, g266, g267, g268, g269, rfl, rfl, g270, trivial⟩ ?_))
            clear hK271; rintro E ⟨g302, g303, g304, g305, g306, g307, g308, g309, -⟩
            refine seq fun K310 hK310 => ?_
            refine seq fun K311 hK311 => ?_
            refine reg ?_
            refine s_y (y_move (v := (Vi 0)) g308) rfl ?_
            refine s_y (y_neq rfl rfl) rfl ?_
            refine s_nil (hK311 _ _ (genC [(0, (.slice (some ⟨b, o, none⟩) n c)), (1, (Vi low)), (2, (Vi high)), (14, (Vp w130.heap.size 0)), (15, (Vi 1)), (16, (Vp pg275.pb 0)), (17, (Vi 0)), (40, (Vi 1)), (51, Vf)] ⟨g302, g303, g304, g305, g306, g307, g308, g309, rfl, trivial⟩ ?_))
            clear hK311; rintro E ⟨g312, g313, g314, g315, g316, g317, g318, g319, g320, -⟩
            refine cond_f g320 ?_
            refine skip (hK310 _ _ (genC [(0, (.slice (some ⟨b, o, none⟩) n c)), (1, (Vi low)), (2, (Vi high)), (14, (Vp w130.heap.size 0)), (15, (Vi 1)), (16, (Vp pg275.pb 0)), (40, (Vi 1))] ⟨g312, g313, g314, g315, g316, g317, g319, trivial⟩ ?_))
            clear hK310; rintro E ⟨g321, g322, g323, g324, g325, g326, g327, -⟩
            refine reg ?_
            refine s_y (y_move (v := (Vp w130.heap.size 0)) g324) rfl ?_
            refine s_y (y_move (v := (Vi 1)) g325) rfl ?_
            refine s_y (y_move (v := (Vp pg275.pb 0)) g326) rfl ?_
            refine s_y (y_nil rfl) rfl ?_
            refine s_y (y_fld fo95_6 rfl) rfl ?_
            refine s_y (y_idxA ao93 sz92 rfl (i := 1) rfl (by omega)) rfl ?_
            have hb328 := (hk274.get0 hbk257)
            refine s_e0 (e_storeV (cs' := #[(Vi max), (Vi 0), U0, U0, U0, U0, (.map (some w79.heap.size)), (Vp x13.ib 0), (Vp x81.ib 0), (Vp ((Q 0).pb) 0), (Vp pg275.pb 0), (.pointer none)]) [(Vp pg275.pb 0)] rfl (v := (Vp pg275.pb 0)) rfl rfl sz92 hb328 rfl rfl rfl) ?_
            rintro _ w329 ⟨hb330, hk331⟩
            have ka332 := (Kp.fresh ka301 hk331 fun _ e => nl (nl hz162 (Nat.le_refl _)) (Nat.le_of_eq e.symm))
            refine s_nil (hK263 _ _ (genC [(0, (.slice (some ⟨b, o, none⟩) n c)), (1, (Vi low)), (2, (Vi high)), (14, (Vp w130.heap.size 0)), (40, (Vi 1))] ⟨g321, g322, g323, g324, g327, trivial⟩ ?_))
            clear hK263; rintro E ⟨g333, g334, g335, g336, g337, -⟩
            refine reg ?_
            refine s_y (y_add g337 rfl (c := 2) (by decide) rfl) rfl ?_
            refine s_y (y_move (v := (Vi 2)) rfl) rfl ?_
            have hpi338 := PoolsInv.kp hst9 hk331 (fun b e => e ▸ (lt_of_get hb135))
            have kc339 : Kp (· = w130.heap.size) w134 w154 := (Kp.trans (Kp.refl _ _) hk155 (fun _ _ e => e))
            have kc340 : Kp (· = w130.heap.size) w134 w273 := (Kp.then0 kc339 hk274)
            have kc341 : Kp (· = w130.heap.size) w134 w329 := (Kp.trans kc340 hk331 (fun _ _ e => e))
            exact s_nil (hK156 ((1 + 1), (updQ Q 1 pg275)) _ _ ⟨⟨g333, g334, g335, g336, rfl, trivial⟩, kc341, (show (1 + 1) ≤ 3 from (by omega)), (show Blk w329 w130.heap.size #[(Vi max), (Vi 0), U0, U0, U0, U0, (.map (some w79.heap.size)), (Vp x13.ib 0), (Vp x81.ib 0), pc (updQ Q 1 pg275) (1 + 1) 0, pc (updQ Q 1 pg275) (1 + 1) 1, pc (updQ Q 1 pg275) (1 + 1) 2] 95 from hb330), (show PoolsInv l low high w134.heap.size (updQ Q 1 pg275) (1 + 1) w329 from hpi338), (show 0 < (1 + 1) → Right l low high from (fun _ => hx276))⟩ (by show (3 - (1 + 1)) < (3 - i); omega))
        · have hbk342 : Blk w154 w130.heap.size #[(Vi max), (Vi 0), U0, U0, U0, U0, (.map (some w79.heap.size)), (Vp x13.ib 0), (Vp x81.ib 0), (Vp ((Q 0).pb) 0), (Vp ((Q 1).pb) 0), (.pointer none)] 95 := by have h9 := hi158; rw [hik] at h9; exact h9
          have hpik := hi159; rw [hik] at hpik
          refine skip (hK170 _ _ (genC [(0, (.slice (some ⟨b, o, none⟩) n c)), (1, (Vi low)), (2, (Vi high)), (14, (Vp w130.heap.size 0)), (40, (Vi 2))] ⟨g164, g165, g166, g167, (Eq.trans g168 (by rw [hik]; rfl)), trivial⟩ ?_))
          clear hK170; rintro E ⟨g343, g344, g345, g346, g347, -⟩
          refine seq fun K348 hK348 => ?_
          refine block ?_
          refine seq fun K349 hK349 => ?_
          refine reg ?_
          refine s_y (y_move (v := (Vi 2)) g347) rfl ?_
          refine s_y (y_assign (v := (Vi 2)) rfl) rfl ?_
          refine s_nil (hK349 _ _ (genC [(0, (.slice (some ⟨b, o, none⟩) n c)), (1, (Vi low)), (2, (Vi high)), (14, (Vp w130.heap.size 0)), (15, (Vi 2)), (40, (Vi 2))] ⟨g343, g344, g345, g346, rfl, g347, trivial⟩ ?_))
          clear hK349; rintro E ⟨g350, g351, g352, g353, g354, g355, -⟩
          refine seq fun K356 hK356 => ?_
          refine reg ?_
          refine s_y (y_move (v := (.slice (some ⟨b, o, none⟩) n c)) g350) rfl ?_
          refine s_y (y_move (v := (Vi low)) g351) rfl ?_
          refine s_y (y_move (v := (Vi high)) g352) rfl ?_
          have hf357 := (((((hl.kp hk12 id).kp hk80 id).kp hk132 id).kp hk136 id).kp hk155 (Nat.ne_of_lt (nt (nt (hl.lt) hz162) (Nat.le_refl _))))
          refine s_e (e_call ca45 (args := [(.slice (some ⟨b, o, none⟩) n c), (Vi low), (Vi high)]) rfl (poolnew_spec hn hnc hmax hf357)) rfl ?_
          rintro _ w358 ⟨⟨hx361, rfl⟩ | ⟨hx361, pg360, rfl, hnp362⟩, hk359⟩
          · have ka363 := (Kp.then0 ka161 hk359)
            refine s_y (y_move (v := (.tuple #[(.pointer none), (Vi 1)])) rfl) rfl ?_
            refine s_y (y_ext rfl (v := (.pointer none)) rfl) rfl ?_
            refine s_y (y_ext rfl (v := (Vi 1)) rfl) rfl ?_
            refine s_y (y_assign (v := (.pointer none)) rfl) rfl ?_
            refine s_y (y_assign (v := (Vi 1)) rfl) rfl ?_
            refine s_nil (hK356 _ _ (genC [(0, (.slice (some ⟨b, o, none⟩) n c)), (1, (Vi low)), (2, (Vi high)), (14, (Vp w130.heap.size 0)), (15, (Vi 2)), (16, (.pointer none)), (17, (Vi 1)), (40, (Vi 2))] ⟨g350, g351, g352, g353, g354, rfl, rfl, g355, trivial⟩ ?_))
            clear hK356; rintro E ⟨g364, g365, g366, g367, g368, g369, g370, g371, -⟩
            refine seq fun K372 hK372 => ?_
            refine seq fun K373 hK373 => ?_
            refine reg ?_
            refine s_y (y_move (v := (Vi 1)) g370) rfl ?_
            refine s_y (y_neq rfl rfl) rfl ?_
            refine s_nil (hK373 _ _ (genC [(0, (.slice (some ⟨b, o, none⟩) n c)), (1, (Vi low)), (2, (Vi high)), (14, (Vp w130.heap.size 0)), (15, (Vi 2)), (16, (.pointer none)), (17, (Vi 1)), (40, (Vi 2)), (51, Vt)] ⟨g364, g365, g366, g367, g368, g369, g370, g371, rfl, trivial⟩ ?_))
            clear hK373; rintro E ⟨g374, g375, g376, g377, g378, g379, g380, g381, g382, -⟩
            refine cond_t g382 ?_
            refine seq fun K383 hK383 => ?_
            refine reg ?_
            refine s_y (y_move (v := (Vi 1)) g380) rfl ?_
            refine s_y (y_assign (v := (.pointer none)) rfl) rfl ?_
            refine s_y (y_assign (v := (Vi 1)) rfl) rfl ?_
            refine s_nil (hK383 _ _ (genC [(8, (.pointer none)), (9, (Vi 1))] ⟨rfl, rfl, trivial⟩ ?_))
            clear hK383; rintro E ⟨g384, g385, -⟩
            refine ret (hret _ _ [(.pointer none), (Vi 1)] ⟨g384, g385, trivial⟩ ?_)
            exact ⟨.inl ⟨fun hc => hx361 hc.2, rfl⟩, ka363⟩
          · have hst9 := PoolsInv.step hpik hnp362 hk359 (by exact hk155.size)
            have ka386 := (Kp.then0 ka161 hk359)
            refine s_y (y_move (v := (.tuple #[(Vp pg360.pb 0), (Vi 0)])) rfl) rfl ?_
            refine s_y (y_ext rfl (v := (Vp pg360.pb 0)) rfl) rfl ?_
            refine s_y (y_ext rfl (v := (Vi 0)) rfl) rfl ?_
            refine s_y (y_assign (v := (Vp pg360.pb 0)) rfl) rfl ?_
            refine s_y (y_assign (v := (Vi 0)) rfl) rfl ?_
            refine s_nil (hK356 _ _ (genC [(0, (.slice (some ⟨b, o, none⟩) n c)), (1, (Vi low)), (2, (Vi high)), (14, (Vp w130.heap.size 0)), (15, (Vi 2)), (16, (Vp pg360.pb 0)), (17, (Vi 0)), (40, (Vi 2))] ⟨g350, g351, g352, g353, g354, rfl, rfl, g355, trivial⟩ ?_))
            clear hK356; rintro E ⟨g387, g388, g389, g390, g391, g392, g393, g394, -⟩
            refine seq fun K395 hK395 => ?_
            refine seq fun K396 hK396 => ?_
            refine reg ?_
            refine s_y (y_move (v := (Vi 0)) g393) rfl ?_
            refine s_y (y_neq rfl rfl) rfl ?_
            refine s_nil (hK396 _ _ (genC [(0, (.slice (some ⟨b, o, none⟩) n c)), (1, (Vi low)), (2, (Vi high)), (14, (Vp w130.heap.size 0)), (15, (Vi 2)), (16, (Vp pg360.pb 0)), (17, (Vi 0)), (40, (Vi 2)), (51, Vf)] ⟨g387, g388, g389, g390, g391, g392, g393, g394, rfl, trivial⟩ ?_))
            clear hK396; rintro E ⟨g397, g398, g399, g400, g401, g402, g403, g404, g405, -⟩
            refine cond_f g405 ?_
            refine skip (hK395 _ _ (genC [(0, (.slice (some ⟨b, o, none⟩) n c)), (1, (Vi low)), (2, (Vi high)), (14, (Vp w130.heap.size 0)), (15, (Vi 2)), (16, (Vp pg360.pb 0)), (40, (Vi 2))] ⟨g397, g398, g399, g400, g401, g402, g404, trivial⟩ ?_))
            clear hK395; rintro E ⟨g406, g407, g408, g409, g410, g411, g412, -⟩
            refine reg ?_
            refine s_y (y_move (v := (Vp w130.heap.size 0)) g409) rfl ?_
            refine s_y (y_move (v := (Vi 2)) g410) rfl ?_
            refine s_y (y_move (v := (Vp pg360.pb 0)) g411) rfl ?_
            refine s_y (y_nil rfl) rfl ?_
            refine s_y (y_fld fo95_6 rfl) rfl ?_
            refine s_y (y_idxA ao93 sz92 rfl (i := 2) rfl (by omega)) rfl ?_
            have hb413 := (hk359.get0 hbk342)
            refine s_e0 (e_storeV (cs' := #[(Vi max), (Vi 0), U0, U0, U0, U0, (.map (some w79.heap.size)), (Vp x13.ib 0), (Vp x81.ib 0), (Vp ((Q 0).pb) 0), (Vp ((Q 1).pb) 0), (Vp pg360.pb 0)]) [(Vp pg360.pb 0)] rfl (v := (Vp pg360.pb 0)) rfl rfl sz92 hb413 rfl rfl rfl) ?_
            rintro _ w414 ⟨hb415, hk416⟩
            have ka417 := (Kp.fresh ka386 hk416 fun _ e => nl (nl hz162 (Nat.le_refl _)) (Nat.le_of_eq e.symm))
            refine s_nil (hK348 _ _ (genC [(0, (.slice (some ⟨b, o, none⟩) n c)), (1, (Vi low)), (2, (Vi high)), (14, (Vp w130.heap.size 0)), (40, (Vi 2))] ⟨g406, g407, g408, g409, g412, trivial⟩ ?_))
            clear hK348; rintro E ⟨g418, g419, g420, g421, g422, -⟩
            refine reg ?_
            refine s_y (y_add g422 rfl (c := 3) (by decide) rfl) rfl ?_
            refine s_y (y_move (v := (Vi 3)) rfl) rfl ?_
            have hpi423 := PoolsInv.kp hst9 hk416 (fun b e => e ▸ (lt_of_get hb135))
            have kc424 : Kp (· = w130.heap.size) w134 w154 := (Kp.trans (Kp.refl _ _) hk155 (fun _ _ e => e))
            have kc425 : Kp (· = w130.heap.size) w134 w358 := (Kp.then0 kc424 hk359)
            have kc426 : Kp (· = w130.heap.size) w134 w414 := (Kp.trans kc425 hk416 (fun _ _ e => e))
            exact s_nil (hK156 ((2 + 1), (updQ Q 2 pg360)) _ _ ⟨⟨g418, g419, g420, g421, rfl, trivial⟩, kc426, (show (2 + 1) ≤ 3 from (by omega)), (show Blk w414 w130.heap.size #[(Vi max), (Vi 0), U0, U0, U0, U0, (.map (some w79.heap.size)), (Vp x13.ib 0), (Vp x81.ib 0), pc (updQ Q 2 pg360) (2 + 1) 0, pc (updQ Q 2 pg360) (2 + 1) 1, pc (updQ Q 2 pg360) (2 + 1) 2] 95 from hb415), (show PoolsInv l low high w134.heap.size (updQ Q 2 pg360) (2 + 1) w414 from hpi423), (show 0 < (2 + 1) → Right l low high from (fun _ => hx361))⟩ (by show (3 - (2 + 1)) < (3 - i); omega))
      · have hik : i = 3 := by omega
        have hR9 := hi160 (by omega); have hlp9 := List.length_pos_iff.2 hR9.ne; have hmx9 := hm
        have hbk427 : Blk w154 w130.heap.size #[(Vi max), (Vi 0), U0, U0, U0, U0, (.map (some w79.heap.size)), (Vp x13.ib 0), (Vp x81.ib 0), (Vp ((Q 0).pb) 0), (Vp ((Q 1).pb) 0), (Vp ((Q 2).pb) 0)] 95 := by have h9 := hi158; rw [hik] at h9; exact h9
        have hpik := hi159; rw [hik] at hpik
        refine exit (hK142 _ _ (genC [(0, (.slice (some ⟨b, o, none⟩) n c)), (14, (Vp w130.heap.size 0))] ⟨g164, g167, trivial⟩ ?_))
        clear hK142; rintro E ⟨g428, g429, -⟩
        refine seq fun K430 hK430 => ?_
        refine reg ?_
        refine s_y (y_move (v := (Vp w130.heap.size 0)) g429) rfl ?_
        refine s_y (y_move (v := (.slice (some ⟨b, o, none⟩) n c)) g428) rfl ?_
        refine s_y (y_idx so28 sz27 rfl (i := 0) rfl (by omega)) rfl ?_
        have hf431 := (((((hl.kp hk12 id).kp hk80 id).kp hk132 id).kp hk136 id).kp hk155 (Nat.ne_of_lt (nt (nt (hl.lt) hz162) (Nat.le_refl _))))
        obtain ⟨x432, hx433⟩ : ∃ x, l[0]? = some x := ⟨_, List.getElem?_eq_getElem (by omega)⟩
        refine s_y (y_load (v := (.agg #[u8 x432.a, u8 x432.b, u8 x432.c, u8 x432.d])) rfl (rd_el ag27 (EltsOn.now hf431) hx433 (vs := [(u8 x432.a), (u8 x432.b), (u8 x432.c), (u8 x432.d)]) rfl)) rfl ?_
        refine s_y (y_nil rfl) rfl ?_
        refine s_y (y_fld fo95_2 rfl) rfl ?_
        refine s_e0 (e_storeV (cs' := #[(Vi max), (Vi 0), (u8 x432.a), (u8 x432.b), (u8 x432.c), (u8 x432.d), (.map (some w79.heap.size)), (Vp x13.ib 0), (Vp x81.ib 0), (Vp ((Q 0).pb) 0), (Vp ((Q 1).pb) 0), (Vp ((Q 2).pb) 0)]) [(u8 x432.a), (u8 x432.b), (u8 x432.c), (u8 x432.d)] rfl (v := (.agg #[u8 x432.a, u8 x432.b, u8 x432.c, u8 x432.d])) rfl rfl sz27 hbk427 rfl rfl rfl) ?_
        rintro _ w434 ⟨hb435, hk436⟩
        have ka437 := (Kp.fresh ka161 hk436 fun _ e => nl (nl hz162 (Nat.le_refl _)) (Nat.le_of_eq e.symm))
        refine s_nil (hK430 _ _ (genC [(14, (Vp w130.heap.size 0))] ⟨g429, trivial⟩ ?_))
        clear hK430; rintro E ⟨g438, -⟩
        refine seq fun K439 hK439 => ?_
        refine reg ?_
        refine s_y (y_move (v := (Vp w130.heap.size 0)) g438) rfl ?_
        refine s_y (y_assign (v := (Vp w130.heap.size 0)) rfl) rfl ?_
        refine s_y (y_assign (v := (Vi 0)) rfl) rfl ?_
        refine s_nil (hK439 _ _ (genC [(8, (Vp w130.heap.size 0)), (9, (Vi 0))] ⟨rfl, rfl, trivial⟩ ?_))
        clear hK439; rintro E ⟨g440, g441, -⟩
        refine ret (hret _ _ [(Vp w130.heap.size 0), (Vi 0)] ⟨g440, g441, trivial⟩ ?_)
        have hf442 := (((hmm9.kp hk136 id).kp hk155 (Nat.ne_of_lt (nt (hmm9.lt) (Nat.le_refl _)))).kp hk436 (Nat.ne_of_lt (nt (hmm9.lt) (Nat.le_refl _))))
        have hf443 := (IxIs.kp (IxIs.kp (IxIs.kp (IxIs.kp (IxIs.kp (NewIx.is hnx15) hk80 id id) hk132 id id) hk136 id id) hk155 (Nat.ne_of_lt (nt (nt ((IxIs.lt (NewIx.is hnx15)).1) (nl hk80.size hk132.size)) (Nat.le_refl _))) (Nat.ne_of_lt (nt (nt ((IxIs.lt (NewIx.is hnx15)).2) (nl hk80.size hk132.size)) (Nat.le_refl _)))) hk436 (Nat.ne_of_lt (nt (nt ((IxIs.lt (NewIx.is hnx15)).1) (nl hk80.size hk132.size)) (Nat.le_refl _))) (Nat.ne_of_lt (nt (nt ((IxIs.lt (NewIx.is hnx15)).2) (nl hk80.size hk132.size)) (Nat.le_refl _))))
        have hf444 := (IxIs.kp (IxIs.kp (IxIs.kp (IxIs.kp (NewIx.is hnx83) hk132 id id) hk136 id id) hk155 (Nat.ne_of_lt (nt (nt ((IxIs.lt (NewIx.is hnx83)).1) hk132.size) (Nat.le_refl _))) (Nat.ne_of_lt (nt (nt ((IxIs.lt (NewIx.is hnx83)).2) hk132.size) (Nat.le_refl _)))) hk436 (Nat.ne_of_lt (nt (nt ((IxIs.lt (NewIx.is hnx83)).1) hk132.size) (Nat.le_refl _))) (Nat.ne_of_lt (nt (nt ((IxIs.lt (NewIx.is hnx83)).2) hk132.size) (Nat.le_refl _))))
        have hf445 := ((((((hT.kp hk12 id).kp hk80 id).kp hk132 id).kp hk136 id).kp hk155 (Nat.ne_of_lt (nt (nt (hT.lt) hz162) (Nat.le_refl _)))).kp hk436 (Nat.ne_of_lt (nt (nt (hT.lt) hz162) (Nat.le_refl _))))
        have hpi446 := PoolsInv.kp hpik hk436 (fun b e => e ▸ (lt_of_get hb135))
        exact ⟨.inr ⟨⟨hx82, hR9⟩, _, rfl, newbib hnx15 hnx83 (IxIs.lt (NewIx.is hnx15)) (IxIs.lt (NewIx.is hnx83)) (Nat.le_refl _) (hmm9.lt) (lt_of_get hb135) (by omega) hpi446 hx433 hb435 hf442 hf443 hf444 hf445 hT⟩, ka437⟩

end Go.Proofs.YtdcnblafepgheaaDoor
