/-
  Written by a program (wip/walks).
-/
import Derived.Shelf.SlSortCmp.NoneTotal
import Derived.Test.YtdcnblafepgheaaDoorS8
namespace Go.Proofs.YtdcnblafepgheaaDoor
open Go Go.V
set_option maxRecDepth 100000
def sesOf (l : List (Session × Nat)) (k : Int) : Session := match l.find? (fun p => decide (p.1.id = k)) with | some p => p.1 | none => zeroS
theorem sesOf_mem {l : List (Session × Nat)} (hn : (l.map (·.1.id)).Nodup) {p : Session × Nat} (hp : p ∈ l) : sesOf l p.1.id = p.1 := by
  unfold sesOf
  induction l with
  | nil => cases hp
  | cons y l ih =>
    rw [List.map_cons, List.nodup_cons] at hn
    rcases List.mem_cons.1 hp with e | e
    · subst e; simp
    · have : y.1.id ≠ p.1.id := fun e2 => hn.1 (e2 ▸ List.mem_map.2 ⟨p, e, rfl⟩)
      rw [List.find?_cons_of_neg (by simpa using this)]
      exact ih hn.2 e
def rowv : Option (Nat × Nat) → Nat → Value
  | none, _ => .slice none 0 0
  | some p, n => .slice (some ⟨p.1, 0, none⟩) n p.2
/-- what has come so far -/
def RowS (B : Nat) (r : Option (Nat × Nat)) (xs : List Session) (w : World) : Prop :=
  match r with
  | none => xs = []
  | some p => OwnC Session.cs 9 w p.1 59 p.2 xs ∧ B ≤ p.1
theorem rowv_of {n m : Nat} (h : n = m) (b c : Nat) : Value.slice (some ⟨b, 0, none⟩) n c = rowv (some (b, c)) m := by subst h; rfl
/-- a row of sessions that a call hands back -/
def SesV (w0 : World) (ys : List Session) (v : Value) (w : World) : Prop := (ys = [] ∧ v = .slice none 0 0) ∨ ∃ rb cap, v = .slice (some ⟨rb, 0, none⟩) ys.length cap ∧ OwnC Session.cs 9 w rb 59 cap ys ∧ w0.heap.size ≤ rb
theorem take_next {ks : List Int} {i : Nat} {x : Int} (h : ks[i]? = some x) : ks.take (i + 1) = ks.take i ++ [x] := by
  rw [List.take_add_one, h]; rfl
open Go.Proofs in
theorem sort_none {cap : Nat} (p : Option Addr) (w : World) : Rets Tryd.prog 95 #[.slice p 0 cap, .func (.func 96) #[] #[]] w fun v w' => v = .tuple #[] ∧ K0 w w' := by
  refine Calls.mono (AnyF.slices_SortFunc_none Tryd.sortSes p cap (.func (.func 96) #[] #[]) w) fun e w' ⟨he, hw⟩ => ?_
  subst hw
  exact ⟨_, he, rfl, Kp.refl _ _⟩
theorem slist_nil {g : SesG} {st : SesS} {w : World} (h : SesIs g st w)  : Rets Tryd.prog 68 #[(.pointer (some ⟨g.tb, 0, none⟩)), (.slice none 0 0)] w fun v w' => v = .slice none 0 0 ∧ K0 w w' := by
  refine enter Tryd.func68 rfl Tryd.ntmps68 rfl fun Q hret hend E hE => ?_
  have g1 : E 0 = (Vp g.tb 0) := hE 0
  have g2 : E 1 = (.slice none 0 0) := hE 1
  clear hE
  have hb0 := h.blk; have hm0 := h.map; have hT0 := h.tb; have hx0 := h.ix; have hq0 := h.q; have ho0 := h.omap
  refine seq fun K3 hK3 => ?_
  refine reg ?_
  refine s_y (y_assign (v := (.slice none 0 0)) rfl) rfl ?_
  refine s_nil (hK3 _ _ (genC [(0, (Vp g.tb 0)), (1, (.slice none 0 0))] ⟨g1, g2, trivial⟩ ?_))
  clear hK3; rintro E ⟨g4, g5, -⟩
  refine seq fun K6 hK6 => ?_
  refine reg ?_
  refine s_y (y_assign (v := (.slice none 0 0)) rfl) rfl ?_
  refine s_nil (hK6 _ _ (genC [(0, (Vp g.tb 0)), (1, (.slice none 0 0)), (5, (.slice none 0 0))] ⟨g4, g5, rfl, trivial⟩ ?_))
  clear hK6; rintro E ⟨g7, g8, g9, -⟩
  refine seq fun K10 hK10 => ?_
  refine seq fun K11 hK11 => ?_
  refine reg ?_
  refine s_y (y_move (v := (.slice none 0 0)) g8) rfl ?_
  refine s_y (y_lenS so87 rfl) rfl ?_
  refine s_y (y_move (v := (Vi 0)) rfl) rfl ?_
  refine s_nil (hK11 _ _ (genC [(0, (Vp g.tb 0)), (5, (.slice none 0 0)), (8, (.slice none 0 0)), (9, (Vi (((0 : Nat) : Int)))), (10, (Vi 0))] ⟨g7, g9, rfl, rfl, rfl, trivial⟩ ?_))
  clear hK11; rintro E ⟨g12, g13, g14, g15, g16, -⟩
  refine block ?_
  refine loopG (X := Nat) (fun q_ E w_ => Has E [(0, (Vp g.tb 0)), (5, (.slice none 0 0)), (8, (.slice none 0 0)), (9, (Vi (((0 : Nat) : Int)))), (10, (Vi (((q_ : Nat) : Int))))] ∧ Kp (fun _ => False) w w_ ∧ (q_ = 0)) (fun q_ => q_) 0 ⟨⟨g12, g13, g14, g15, g16, trivial⟩, Kp.refl _ _, (show 0 = 0 from rfl)⟩ ?_
  rintro i E w22 ⟨⟨g17, g18, g19, g20, g21, -⟩, hk23, hi25⟩ K24 hK24
  replace hi25 : i = 0 := hi25
  have ka26 : Kp (fun _ => False) w w22 := (Kp.then0 (Kp.refl _ _) hk23)
  refine seq fun K27 hK27 => ?_
  refine reg ?_
  refine s_y (y_lss g21 g20) rfl ?_
  refine s_nil (hK27 _ _ (genC [(0, (Vp g.tb 0)), (5, (.slice none 0 0)), (8, (.slice none 0 0)), (9, (Vi (((0 : Nat) : Int)))), (10, (Vi (((i : Nat) : Int)))), (11, (.bool (decide ((((i : Nat) : Int) : Int) < ((0 : Nat) : Int)))))] ⟨g17, g18, g19, g20, g21, rfl, trivial⟩ ?_))
  clear hK27; rintro E ⟨g28, g29, g30, g31, g32, g33, -⟩
  refine seq fun K34 hK34 => ?_
  refine cond_d g33 (fun c35 => ?_) (fun c35 => ?_)
  · omega
  · refine exit (hK10 _ _ (genC [(5, (.slice none 0 0))] ⟨g29, trivial⟩ ?_))
    clear hK10; rintro E ⟨g36, -⟩
    refine seq fun K37 hK37 => ?_
    refine reg ?_
    refine s_y (y_move (v := (.slice none 0 0)) g36) rfl ?_
    refine s_e (e_call ca95 (args := [(.slice none 0 0), (.func (.func 96) #[] #[])]) rfl (sort_none none _)) rfl ?_
    rintro _ w38 ⟨rfl, hk39⟩
    have ka40 := (Kp.then0 ka26 hk39)
    refine s_nil (hK37 _ _ (genC [(5, (.slice none 0 0))] ⟨g36, trivial⟩ ?_))
    clear hK37; rintro E ⟨g41, -⟩
    refine seq fun K42 hK42 => ?_
    refine reg ?_
    refine s_y (y_move (v := (.slice none 0 0)) g41) rfl ?_
    refine s_y (y_assign (v := (.slice none 0 0)) rfl) rfl ?_
    refine s_nil (hK42 _ _ (genC [(4, (.slice none 0 0))] ⟨rfl, trivial⟩ ?_))
    clear hK42; rintro E ⟨g43, -⟩
    refine ret (hret _ _ [(.slice none 0 0)] ⟨g43, trivial⟩ ?_)
    exact ⟨rfl, ka40⟩

theorem slist_spec {g : SesG} {st : SesS} {w : World} (h : SesIs g st w) {bi n c : Nat} {ks : List Int} (hn : n = ks.length) (hbig : ks.length ≤ 1000000) (hel : Elts (fun n : Int => [.int .i64 n]) 1 w bi 0 ks) (hks : ∀ k ∈ ks, ∃ p ∈ st.l, p.1.id = k) : Rets Tryd.prog 68 #[(.pointer (some ⟨g.tb, 0, none⟩)), (.slice (some ⟨bi, 0, none⟩) n c)] w fun v w' => (∃ ys : List Session, ys.Perm (ks.map (sesOf st.l)) ∧ ys.Pairwise (fun a b => a.id ≤ b.id) ∧ SesV w ys v w') ∧ K0 w w' := by
  refine enter Tryd.func68 rfl Tryd.ntmps68 rfl fun Q hret hend E hE => ?_
  have g1 : E 0 = (Vp g.tb 0) := hE 0
  have g2 : E 1 = (.slice (some ⟨bi, 0, none⟩) n c) := hE 1
  clear hE
  have hb0 := h.blk; have hm0 := h.map; have hT0 := h.tb; have hx0 := h.ix; have hq0 := h.q; have ho0 := h.omap
  refine seq fun K3 hK3 => ?_
  refine reg ?_
  refine s_y (y_assign (v := (.slice none 0 0)) rfl) rfl ?_
  refine s_nil (hK3 _ _ (genC [(0, (Vp g.tb 0)), (1, (.slice (some ⟨bi, 0, none⟩) n c))] ⟨g1, g2, trivial⟩ ?_))
  clear hK3; rintro E ⟨g4, g5, -⟩
  refine seq fun K6 hK6 => ?_
  refine reg ?_
  refine s_y (y_assign (v := (.slice none 0 0)) rfl) rfl ?_
  refine s_nil (hK6 _ _ (genC [(0, (Vp g.tb 0)), (1, (.slice (some ⟨bi, 0, none⟩) n c)), (5, (.slice none 0 0))] ⟨g4, g5, rfl, trivial⟩ ?_))
  clear hK6; rintro E ⟨g7, g8, g9, -⟩
  refine seq fun K10 hK10 => ?_
  refine seq fun K11 hK11 => ?_
  refine reg ?_
  refine s_y (y_move (v := (.slice (some ⟨bi, 0, none⟩) n c)) g8) rfl ?_
  refine s_y (y_lenS so87 rfl) rfl ?_
  refine s_y (y_move (v := (Vi 0)) rfl) rfl ?_
  refine s_nil (hK11 _ _ (genC [(0, (Vp g.tb 0)), (5, (.slice none 0 0)), (8, (.slice (some ⟨bi, 0, none⟩) n c)), (9, (Vi (((n : Nat) : Int)))), (10, (Vi 0))] ⟨g7, g9, rfl, rfl, rfl, trivial⟩ ?_))
  clear hK11; rintro E ⟨g12, g13, g14, g15, g16, -⟩
  refine block ?_
  refine loopG (X := Nat × Option (Nat × Nat)) (fun q_ E w_ => Has E [(0, (Vp g.tb 0)), (5, (rowv q_.2 q_.1)), (8, (.slice (some ⟨bi, 0, none⟩) n c)), (9, (Vi (((n : Nat) : Int)))), (10, (Vi (((q_.1 : Nat) : Int))))] ∧ Kp (fun k => w.heap.size ≤ k) w w_ ∧ (q_.1 ≤ ks.length) ∧ (RowS w.heap.size q_.2 ((ks.take q_.1).map (sesOf st.l)) w_)) (fun q_ => (ks.length - q_.1)) (0, none) ⟨⟨g12, g13, g14, g15, g16, trivial⟩, Kp.refl _ _, (show 0 ≤ ks.length from (Nat.zero_le _)), (show RowS w.heap.size none ((ks.take 0).map (sesOf st.l)) w from rfl)⟩ ?_
  rintro ⟨i, r⟩ E w22 ⟨⟨g17, g18, g19, g20, g21, -⟩, hk23, hi25, hi26⟩ K24 hK24
  replace g17 : E 0 = (Vp g.tb 0) := g17
  replace g18 : E 5 = (rowv r i) := g18
  replace g19 : E 8 = (.slice (some ⟨bi, 0, none⟩) n c) := g19
  replace g20 : E 9 = (Vi (((n : Nat) : Int))) := g20
  replace g21 : E 10 = (Vi (((i : Nat) : Int))) := g21
  replace hi25 : i ≤ ks.length := hi25
  replace hi26 : RowS w.heap.size r ((ks.take i).map (sesOf st.l)) w22 := hi26
  have ka27 : Kp (fun _ => False) w w22 := (Kp.trans (Kp.refl _ _) hk23 fun i hi e => (fun e => absurd hi (Nat.not_lt.2 e)) e)
  have hi9 := hi25; have hlx9 : i = ((ks.take i).map (sesOf st.l)).length := by rw [List.length_map, List.length_take]; omega
  refine seq fun K28 hK28 => ?_
  refine reg ?_
  refine s_y (y_lss g21 g20) rfl ?_
  refine s_nil (hK28 _ _ (genC [(0, (Vp g.tb 0)), (5, (rowv r i)), (8, (.slice (some ⟨bi, 0, none⟩) n c)), (9, (Vi (((n : Nat) : Int)))), (10, (Vi (((i : Nat) : Int)))), (11, (.bool (decide ((((i : Nat) : Int) : Int) < ((n : Nat) : Int)))))] ⟨g17, g18, g19, g20, g21, rfl, trivial⟩ ?_))
  clear hK28; rintro E ⟨g29, g30, g31, g32, g33, g34, -⟩
  refine seq fun K35 hK35 => ?_
  refine cond_d g34 (fun c36 => ?_) (fun c36 => ?_)
  · obtain ⟨x9, hx9⟩ : ∃ x, ks[i]? = some x := ⟨_, List.getElem?_eq_getElem (by omega)⟩
    obtain ⟨p9, hp9, hpk9⟩ := hks x9 (List.mem_of_getElem? hx9); subst hpk9
    have hbx9 := h.box p9 hp9; have hag9 := h.aget hp9; have hgd9 := h.good hp9; unfold inI at hgd9; have hso9 := sesOf_mem h.ids hp9
    cases r with
    | none =>
      have hr9 : ((ks.take i).map (sesOf st.l)) = [] := hi26
      refine skip (hK35 _ _ (genC [(0, (Vp g.tb 0)), (5, (.slice none 0 0)), (8, (.slice (some ⟨bi, 0, none⟩) n c)), (9, (Vi (((n : Nat) : Int)))), (10, (Vi (((i : Nat) : Int))))] ⟨g29, g30, g31, g32, g33, trivial⟩ ?_))
      clear hK35; rintro E ⟨g37, g38, g39, g40, g41, -⟩
      refine seq fun K42 hK42 => ?_
      refine block ?_
      refine seq fun K43 hK43 => ?_
      refine reg ?_
      refine s_y (y_idx so87 sz3 g39 (i := i) g41 (by omega)) rfl ?_
      have hf44 := (hel.kp hk23 (Nat.not_le.2 (hel.lt)))
      refine s_y (y_load (v := (Vi (p9.1.id))) rfl (rd_e1 sc3 (EltsOn.now hf44) hx9 rfl)) rfl ?_
      refine s_y (y_assign (v := (Vi (p9.1.id))) rfl) rfl ?_
      refine s_nil (hK43 _ _ (genC [(0, (Vp g.tb 0)), (5, (.slice none 0 0)), (7, (Vi (p9.1.id))), (8, (.slice (some ⟨bi, 0, none⟩) n c)), (9, (Vi (((n : Nat) : Int)))), (10, (Vi (((i : Nat) : Int))))] ⟨g37, g38, rfl, g39, g40, g41, trivial⟩ ?_))
      clear hK43; rintro E ⟨g45, g46, g47, g48, g49, g50, -⟩
      refine reg ?_
      refine s_y (y_move (v := (.slice none 0 0)) g46) rfl ?_
      refine s_y (y_move (v := (Vp g.tb 0)) g45) rfl ?_
      refine s_y (y_nil rfl) rfl ?_
      refine s_y (y_fld fo115_2 rfl) rfl ?_
      have hb51 := (hk23.get hb0 (Nat.not_le.2 (lt_of_get hb0)))
      refine s_y (y_load (v := (.map (some g.mb))) rfl (rd_sc sc110 (On.now hb51) rfl)) rfl ?_
      refine s_y (y_move (v := (Vi (p9.1.id))) g47) rfl ?_
      have hf52 := (hm0.kp hk23 (Nat.not_le.2 (hm0.lt)))
      refine s_y (y_lookup_some kf3 Tryd.underlying110 ze116 (MapOn.now hf52) rfl rfl (show inI p9.1.id from inI_of (by omega) (by omega)) hag9) rfl ?_
      refine s_y (y_nil rfl) rfl ?_
      have hb53 := (hk23.get hbx9 (Nat.not_le.2 (lt_of_get hbx9)))
      refine s_y (y_load (v := (sv p9.1)) rfl (rd_agg (vs := p9.1.cs) ag59 (On.now hb53) (by kernel_rfl) rfl)) rfl ?_
      refine s_e (e_buildSlice (cs := p9.1.cs.toArray) (e := 59) (vs := [(0, (sv p9.1))]) rfl (fun _ => by kernel_rfl)) rfl ?_
      rintro _ w54 ⟨rfl, hb55, hk56⟩
      have ka57 := (Kp.then0 ka27 hk56)
      have hel58 : Elts Session.cs 9 w54 w22.heap.size 0 [p9.1] := Own.all (T := 59) ⟨hb55, fun _ => rfl⟩
      refine s_e (e_append0 so63 ti59 rfl (by decide) (fun _ => rfl) rfl rfl rfl hel58 one_session (by simp) (by simp [maxLen]) (by simp)) rfl ?_
      rintro _ w61 ⟨gb60, cap59, rfl, hC62, rfl, hk63⟩
      have ka64 := (Kp.then0 ka57 hk63)
      refine s_y (y_assign (v := (.slice (some ⟨w54.heap.size, 0, none⟩) 1 cap59)) rfl) rfl ?_
      refine s_nil (hK42 _ _ (genC [(0, (Vp g.tb 0)), (5, (.slice (some ⟨w54.heap.size, 0, none⟩) 1 cap59)), (8, (.slice (some ⟨bi, 0, none⟩) n c)), (9, (Vi (((n : Nat) : Int)))), (10, (Vi (((i : Nat) : Int))))] ⟨g45, rfl, g48, g49, g50, trivial⟩ ?_))
      clear hK42; rintro E ⟨g65, g66, g67, g68, g69, -⟩
      refine reg ?_
      refine s_y (y_add g69 rfl (c := ((i : Nat) : Int) + 1) (by omega) rfl) rfl ?_
      refine s_y (y_move (v := (Vi (((i : Nat) : Int) + 1))) rfl) rfl ?_
      have hz9 : i = 0 := by rw [hlx9, hr9]; rfl
      have kc70 : Kp (fun k => w.heap.size ≤ k) w w22 := (Kp.trans (Kp.refl _ _) hk23 (fun _ _ e => e))
      have kc71 : Kp (fun k => w.heap.size ≤ k) w w54 := (Kp.then0 kc70 hk56)
      have kc72 : Kp (fun k => w.heap.size ≤ k) w w61 := (Kp.then0 kc71 hk63)
      exact s_nil (hK24 ((i + 1), (some (w54.heap.size, cap59))) _ _ ⟨⟨g65, (Eq.trans g66 (rowv_of (by omega) _ _)), g67, g68, rfl, trivial⟩, kc72, (show (i + 1) ≤ ks.length from (by omega)), (show RowS w.heap.size (some (w54.heap.size, cap59)) ((ks.take (i + 1)).map (sesOf st.l)) w61 from (show OwnC Session.cs 9 _ w54.heap.size 59 cap59 ((ks.take (i + 1)).map (sesOf st.l)) ∧ w.heap.size ≤ w54.heap.size from ⟨(have h9 : ((ks.take (i + 1)).map (sesOf st.l)) = [p9.1] := (by rw [take_next hx9, List.map_append, hr9, List.map_singleton, hso9]; rfl); h9 ▸ hC62), (nl (nl hk23.size hk56.size) (Nat.le_refl _))⟩))⟩ (by show (ks.length - (i + 1)) < (ks.length - i); omega))
    | some p =>
      obtain ⟨rb, cap⟩ := p
      have hr9 : OwnC Session.cs 9 w22 rb 59 cap ((ks.take i).map (sesOf st.l)) ∧ w.heap.size ≤ rb := hi26
      refine skip (hK35 _ _ (genC [(0, (Vp g.tb 0)), (5, (.slice (some ⟨rb, 0, none⟩) i cap)), (8, (.slice (some ⟨bi, 0, none⟩) n c)), (9, (Vi (((n : Nat) : Int)))), (10, (Vi (((i : Nat) : Int))))] ⟨g29, g30, g31, g32, g33, trivial⟩ ?_))
      clear hK35; rintro E ⟨g73, g74, g75, g76, g77, -⟩
      refine seq fun K78 hK78 => ?_
      refine block ?_
      refine seq fun K79 hK79 => ?_
      refine reg ?_
      refine s_y (y_idx so87 sz3 g75 (i := i) g77 (by omega)) rfl ?_
      have hf80 := (hel.kp hk23 (Nat.not_le.2 (hel.lt)))
      refine s_y (y_load (v := (Vi (p9.1.id))) rfl (rd_e1 sc3 (EltsOn.now hf80) hx9 rfl)) rfl ?_
      refine s_y (y_assign (v := (Vi (p9.1.id))) rfl) rfl ?_
      refine s_nil (hK79 _ _ (genC [(0, (Vp g.tb 0)), (5, (.slice (some ⟨rb, 0, none⟩) i cap)), (7, (Vi (p9.1.id))), (8, (.slice (some ⟨bi, 0, none⟩) n c)), (9, (Vi (((n : Nat) : Int)))), (10, (Vi (((i : Nat) : Int))))] ⟨g73, g74, rfl, g75, g76, g77, trivial⟩ ?_))
      clear hK79; rintro E ⟨g81, g82, g83, g84, g85, g86, -⟩
      refine reg ?_
      refine s_y (y_move (v := (.slice (some ⟨rb, 0, none⟩) i cap)) g82) rfl ?_
      refine s_y (y_move (v := (Vp g.tb 0)) g81) rfl ?_
      refine s_y (y_nil rfl) rfl ?_
      refine s_y (y_fld fo115_2 rfl) rfl ?_
      have hb87 := (hk23.get hb0 (Nat.not_le.2 (lt_of_get hb0)))
      refine s_y (y_load (v := (.map (some g.mb))) rfl (rd_sc sc110 (On.now hb87) rfl)) rfl ?_
      refine s_y (y_move (v := (Vi (p9.1.id))) g83) rfl ?_
      have hf88 := (hm0.kp hk23 (Nat.not_le.2 (hm0.lt)))
      refine s_y (y_lookup_some kf3 Tryd.underlying110 ze116 (MapOn.now hf88) rfl rfl (show inI p9.1.id from inI_of (by omega) (by omega)) hag9) rfl ?_
      refine s_y (y_nil rfl) rfl ?_
      have hb89 := (hk23.get hbx9 (Nat.not_le.2 (lt_of_get hbx9)))
      refine s_y (y_load (v := (sv p9.1)) rfl (rd_agg (vs := p9.1.cs) ag59 (On.now hb89) (by kernel_rfl) rfl)) rfl ?_
      refine s_e (e_buildSlice (cs := p9.1.cs.toArray) (e := 59) (vs := [(0, (sv p9.1))]) rfl (fun _ => by kernel_rfl)) rfl ?_
      rintro _ w90 ⟨rfl, hb91, hk92⟩
      have ka93 := (Kp.then0 ka27 hk92)
      have hel94 : Elts Session.cs 9 w90 w22.heap.size 0 [p9.1] := Own.all (T := 59) ⟨hb91, fun _ => rfl⟩
      have hf97 := (hr9.1.kp hk92 id)
      refine s_e (e_appendC (k := i + 1) so63 ti59 rfl (by decide) rfl hlx9 hf97 rfl rfl hel94 one_session (by have h9 := (show i ≤ 1000000 by omega); simp only [List.length_singleton]; omega) (by have h9 := (show i ≤ 1000000 by omega); simp only [List.length_singleton]; unfold maxLen; omega) (by simp) (by simp only [List.length_singleton]; have h9 := hlx9; omega)) rfl ?_
      rintro _ w98 ⟨gb96, cap95, rfl, hC99, rfl | rfl, hk100⟩
      · have ka101 := (Kp.fresh ka93 hk100 fun _ e => nl (nl (Nat.le_refl _) hr9.2) (Nat.le_of_eq e.symm))
        refine s_y (y_assign (v := (.slice (some ⟨rb, 0, none⟩) (i + 1) cap95)) rfl) rfl ?_
        refine s_nil (hK78 _ _ (genC [(0, (Vp g.tb 0)), (5, (.slice (some ⟨rb, 0, none⟩) (i + 1) cap95)), (8, (.slice (some ⟨bi, 0, none⟩) n c)), (9, (Vi (((n : Nat) : Int)))), (10, (Vi (((i : Nat) : Int))))] ⟨g81, rfl, g84, g85, g86, trivial⟩ ?_))
        clear hK78; rintro E ⟨g102, g103, g104, g105, g106, -⟩
        refine reg ?_
        refine s_y (y_add g106 rfl (c := ((i : Nat) : Int) + 1) (by omega) rfl) rfl ?_
        refine s_y (y_move (v := (Vi (((i : Nat) : Int) + 1))) rfl) rfl ?_
        have kc107 : Kp (fun k => w.heap.size ≤ k) w w22 := (Kp.trans (Kp.refl _ _) hk23 (fun _ _ e => e))
        have kc108 : Kp (fun k => w.heap.size ≤ k) w w90 := (Kp.then0 kc107 hk92)
        have kc109 : Kp (fun k => w.heap.size ≤ k) w w98 := (Kp.fresh kc108 hk100 fun _ e => nl (nl (Nat.le_refl _) hr9.2) (Nat.le_of_eq e.symm))
        exact s_nil (hK24 ((i + 1), (some (rb, cap95))) _ _ ⟨⟨g102, g103, g104, g105, rfl, trivial⟩, kc109, (show (i + 1) ≤ ks.length from (by omega)), (show RowS w.heap.size (some (rb, cap95)) ((ks.take (i + 1)).map (sesOf st.l)) w98 from (show OwnC Session.cs 9 _ rb 59 cap95 ((ks.take (i + 1)).map (sesOf st.l)) ∧ w.heap.size ≤ rb from ⟨(have h9 : ((ks.take (i + 1)).map (sesOf st.l)) = ((ks.take i).map (sesOf st.l)) ++ [p9.1] := (by rw [take_next hx9, List.map_append, List.map_singleton, hso9]); h9 ▸ hC99), (nl (Nat.le_refl _) hr9.2)⟩))⟩ (by show (ks.length - (i + 1)) < (ks.length - i); omega))
      · have ka110 := (Kp.fresh ka93 hk100 fun _ e => nl (nl (Nat.le_refl _) hr9.2) (Nat.le_of_eq e.symm))
        refine s_y (y_assign (v := (.slice (some ⟨w90.heap.size, 0, none⟩) (i + 1) cap95)) rfl) rfl ?_
        refine s_nil (hK78 _ _ (genC [(0, (Vp g.tb 0)), (5, (.slice (some ⟨w90.heap.size, 0, none⟩) (i + 1) cap95)), (8, (.slice (some ⟨bi, 0, none⟩) n c)), (9, (Vi (((n : Nat) : Int)))), (10, (Vi (((i : Nat) : Int))))] ⟨g81, rfl, g84, g85, g86, trivial⟩ ?_))
        clear hK78; rintro E ⟨g111, g112, g113, g114, g115, -⟩
        refine reg ?_
        refine s_y (y_add g115 rfl (c := ((i : Nat) : Int) + 1) (by omega) rfl) rfl ?_
        refine s_y (y_move (v := (Vi (((i : Nat) : Int) + 1))) rfl) rfl ?_
        have kc116 : Kp (fun k => w.heap.size ≤ k) w w22 := (Kp.trans (Kp.refl _ _) hk23 (fun _ _ e => e))
        have kc117 : Kp (fun k => w.heap.size ≤ k) w w90 := (Kp.then0 kc116 hk92)
        have kc118 : Kp (fun k => w.heap.size ≤ k) w w98 := (Kp.fresh kc117 hk100 fun _ e => nl (nl (Nat.le_refl _) hr9.2) (Nat.le_of_eq e.symm))
        exact s_nil (hK24 ((i + 1), (some (w90.heap.size, cap95))) _ _ ⟨⟨g111, g112, g113, g114, rfl, trivial⟩, kc118, (show (i + 1) ≤ ks.length from (by omega)), (show RowS w.heap.size (some (w90.heap.size, cap95)) ((ks.take (i + 1)).map (sesOf st.l)) w98 from (show OwnC Session.cs 9 _ w90.heap.size 59 cap95 ((ks.take (i + 1)).map (sesOf st.l)) ∧ w.heap.size ≤ w90.heap.size from ⟨(have h9 : ((ks.take (i + 1)).map (sesOf st.l)) = ((ks.take i).map (sesOf st.l)) ++ [p9.1] := (by rw [take_next hx9, List.map_append, List.map_singleton, hso9]); h9 ▸ hC99), (nl (nl hk23.size hk92.size) (Nat.le_refl _))⟩))⟩ (by show (ks.length - (i + 1)) < (ks.length - i); omega))
  · have hie9 : i = ks.length := by omega
    cases r with
    | none =>
      have hr9 : ((ks.take i).map (sesOf st.l)) = [] := hi26
      refine exit (hK10 _ _ (genC [(5, (.slice none 0 0))] ⟨g30, trivial⟩ ?_))
      clear hK10; rintro E ⟨g119, -⟩
      refine seq fun K120 hK120 => ?_
      refine reg ?_
      refine s_y (y_move (v := (.slice none 0 0)) g119) rfl ?_
      refine s_e (e_call ca95 (args := [(.slice none 0 0), (.func (.func 96) #[] #[])]) rfl (sort_none none _)) rfl ?_
      rintro _ w121 ⟨rfl, hk122⟩
      have ka123 := (Kp.then0 ka27 hk122)
      refine s_nil (hK120 _ _ (genC [(5, (.slice none 0 0))] ⟨g119, trivial⟩ ?_))
      clear hK120; rintro E ⟨g124, -⟩
      refine seq fun K125 hK125 => ?_
      refine reg ?_
      refine s_y (y_move (v := (.slice none 0 0)) g124) rfl ?_
      refine s_y (y_assign (v := (.slice none 0 0)) rfl) rfl ?_
      refine s_nil (hK125 _ _ (genC [(4, (.slice none 0 0))] ⟨rfl, trivial⟩ ?_))
      clear hK125; rintro E ⟨g126, -⟩
      refine ret (hret _ _ [(.slice none 0 0)] ⟨g126, trivial⟩ ?_)
      have hks9 : ks.take i = ks := by rw [hie9]; exact List.take_length
      exact ⟨⟨[], by rw [hks9] at hr9; rw [hr9], List.Pairwise.nil, .inl ⟨rfl, rfl⟩⟩, ka123⟩
    | some p =>
      obtain ⟨rb, cap⟩ := p
      have hr9 : OwnC Session.cs 9 w22 rb 59 cap ((ks.take i).map (sesOf st.l)) ∧ w.heap.size ≤ rb := hi26
      refine exit (hK10 _ _ (genC [(5, (.slice (some ⟨rb, 0, none⟩) i cap))] ⟨g30, trivial⟩ ?_))
      clear hK10; rintro E ⟨g127, -⟩
      refine seq fun K128 hK128 => ?_
      refine reg ?_
      refine s_y (y_move (v := (.slice (some ⟨rb, 0, none⟩) i cap)) g127) rfl ?_
      refine s_e (e_call ca95 (args := [(.slice (some ⟨rb, 0, none⟩) i cap), (.func (.func 96) #[] #[])]) rfl (sort_ses hr9.1 hlx9 (by rw [← hlx9]; omega))) rfl ?_
      rintro _ w129 ⟨ys130, rfl, hp131, hs132, hC133, hk134⟩
      have ka135 := (Kp.fresh ka27 hk134 fun _ e => nl (nl (Nat.le_refl _) hr9.2) (Nat.le_of_eq e.symm))
      refine s_nil (hK128 _ _ (genC [(5, (.slice (some ⟨rb, 0, none⟩) i cap))] ⟨g127, trivial⟩ ?_))
      clear hK128; rintro E ⟨g136, -⟩
      refine seq fun K137 hK137 => ?_
      refine reg ?_
      refine s_y (y_move (v := (.slice (some ⟨rb, 0, none⟩) i cap)) g136) rfl ?_
      refine s_y (y_assign (v := (.slice (some ⟨rb, 0, none⟩) i cap)) rfl) rfl ?_
      refine s_nil (hK137 _ _ (genC [(4, (.slice (some ⟨rb, 0, none⟩) i cap))] ⟨rfl, trivial⟩ ?_))
      clear hK137; rintro E ⟨g138, -⟩
      refine ret (hret _ _ [(.slice (some ⟨rb, 0, none⟩) i cap)] ⟨g138, trivial⟩ ?_)
      have hks9 : ks.take i = ks := by rw [hie9]; exact List.take_length
      rw [hks9] at hp131 hlx9
      have hly9 : i = ys130.length := by rw [hlx9]; exact hp131.length_eq.symm
      exact ⟨⟨ys130, hp131, hs132, .inr ⟨rb, cap, by rw [← hly9]; rfl, hC133, hr9.2⟩⟩, ka135⟩

end Go.Proofs.YtdcnblafepgheaaDoor
