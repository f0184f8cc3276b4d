/-
  Written by a program (wip/walks).
-/
import Derived.Test.YtdcnblafepgheaaDoorDom
import Derived.Test.YtdcnblafepgheaaDoorShelf
import Derived.Test.YtdcnblafepgheaaDoorE3
import Derived.Test.YtdcnblafepgheaaDoorV7
namespace Go.Proofs.YtdcnblafepgheaaDoor
open Go Go.V
set_option maxRecDepth 100000
/-- the table of the powers of ten is as it was laid -/
def Tb (w : World) : Prop := Lib.TabIs Tryd.prog w "internal/strconv.uint64pow10" .u64 Lib.pow10Tab
theorem tbG : Tryd.prog.globalNamed "internal/strconv.uint64pow10" = some 0 := by kernel_rfl
theorem Tb.get {w : World} (h : Tb w) : ∃ T fz, w.heap[0]? = some (.cells (Lib.pow10Tab.map fun z => Value.int .u64 z).toArray T fz) := by
  unfold Tb Lib.TabIs World.var? at h
  rw [tbG] at h
  simp only [Option.bind_some] at h
  split at h
  · rename_i cs T fz hc; injection h with h; exact ⟨T, fz, by rw [hc, h]⟩
  · cases h
theorem Tb.lt {w : World} (h : Tb w) : 0 < w.heap.size := by obtain ⟨_, _, h⟩ := h.get; exact lt_of_get h
theorem Tb.kp {w w' : World} (h : Tb w) {F : Nat → Prop} (k : Kp F w w') (hn : ¬ F 0) : Tb w' := by
  have h0 := h
  obtain ⟨T, fz, hg⟩ := h.get
  have := k.get hg hn
  unfold Tb Lib.TabIs World.var? at h0 ⊢
  rw [tbG] at h0 ⊢
  simp only [Option.bind_some, this]
theorem Tb.ne {w : World} (h : Tb w) {b : Nat} {cs : Array Value} {T : TypeId} {fz : Nat × Nat} (hb : w.heap[b]? = some (.cells cs T fz)) (hc : ∀ v, cs[0]? = some v → v ≠ .int .u64 1) : b ≠ 0 := fun e => by
  obtain ⟨U, fy, hg⟩ := h.get
  subst e
  rw [hb] at hg
  injection hg with hg; injection hg with hg
  exact hc _ (by rw [hg]; rfl) rfl
theorem Tb.ne_map {w : World} (h : Tb w) {b : Nat} {es : Array MapEntry} {c : Nat} (hb : w.heap[b]? = some (.map es c)) : b ≠ 0 := fun e => by
  obtain ⟨U, fy, hg⟩ := h.get
  subst e
  rw [hb] at hg; cases hg
theorem itoa_spec (n : Int) (w : World) (hn : -9223372036854775808 ≤ n ∧ n ≤ 9223372036854775807) (ht : Tb w) : Rets Tryd.prog 89 #[.int .i64 n] w fun v w' => v = .string (itoaB n) ∧ K0 w w' := by
  refine Calls.mono (Tryd.strconv_Itoa n hn.1 hn.2 w ht) fun e w' ⟨h1, k, os, h2⟩ => ⟨_, h1, rfl, ?_⟩
  subst h2
  exact ⟨rfl, rfl, rfl, by simp [Sort.grow, World.drewN], fun i hi _ => by simp [Sort.grow, World.drewN, Array.getElem?_append_left hi]⟩
theorem key4_spec (p : Int) (t : T4) (w : World) (hp : -9223372036854775808 ≤ p ∧ p ≤ 9223372036854775807) (ht : -9223372036854775808 ≤ t.port ∧ t.port ≤ 9223372036854775807) (hT : Tb w) : Rets Tryd.prog 78 #[(.int .i64 p), (t4 t)] w fun v w' => v = .string (k4 p t) ∧ K0 w w' := by
  refine enter Tryd.func78 rfl Tryd.ntmps78 rfl fun Q hret hend E hE => ?_
  have g1 : E 0 = (Vi p) := hE 0
  have g2 : E 1 = (t4 t) := hE 1
  clear hE
  have hsp9 : (⟨#[32]⟩ : ByteArray).size = 1 := rfl; have hsl9 : (⟨t.addr.l.toArray⟩ : ByteArray).size = 4 := rfl
  refine seq fun K3 hK3 => ?_
  refine reg ?_
  refine s_e (e_box (v := (t4 t)) g2) rfl ?_
  rintro _ w4 ⟨rfl, hb5, hk6⟩
  have ka7 : Kp (fun _ => False) w w4 := (Kp.then0 (Kp.refl _ _) hk6)
  refine s_y (y_assign (v := (.string ({ data := #[] } : ByteArray))) rfl) rfl ?_
  refine s_nil (hK3 _ _ (genC [(0, (Vi p)), (3, (Vp w.heap.size 0))] ⟨g1, rfl, trivial⟩ ?_))
  clear hK3; rintro E ⟨g8, g9, -⟩
  refine seq fun K10 hK10 => ?_
  refine regD (fun _ => False) (.take 0 (.take 3 (.take 4 (.take 8 (.take 9 (.take 10 (.one 1 (.take 2 (.one 5 (.take 6 (.take 7 (.take 11 (.take 12 .done))))))))))))) mixed (by kernel_rfl) fun w11 hh12 hk13 => ?_
  have ka14 := (Kp.then0 ka7 hk13)
  refine o_y rfl (y_move (v := (Vi p)) g8) ?_
  refine o_y rfl (y_fld fo34_1 g9) ?_
  refine o_y rfl (y_load (v := (Vi (t.port))) rfl (rd_sc sc3 (On.kp (hk13.get0 hb5) id) rfl)) ?_
  refine o_y rfl (y_fld fo34_0 g9) ?_
  refine o_y rfl (y_sliceA ao27 sz5 rfl) ?_
  refine o_y rfl (y_strof (l := t.addr.l) Tryd.underlying161 Tryd.underlying9 Tryd.underlying5 rfl rfl (fun w hw => ⟨_, _, _, (On.kp (hk13.get0 hb5) id) w hw, rfl⟩)) ?_
  refine o_one ?_
  have hf15 := ((hT.kp hk6 id).kp hk13 id)
  have hszz16 := itoaB_size (n := p) (by omega)
  refine c_e rfl (e_call ca89 (args := [(Vi p)]) rfl (itoa_spec p _ (by omega) hf15)) ?_
  rintro _ w17 ⟨rfl, hk18⟩
  have ka19 := (Kp.then0 ka14 hk18)
  have ks20 : Kp (fun _ => False) w11 w17 := (Kp.then0 (Kp.refl _ _) hk18)
  refine ⟨ks20, ?_⟩
  refine o_y rfl (y_sadd rfl rfl (by first | omega | (simp only [size_add]; omega))) ?_
  refine o_one ?_
  have hf21 := (hf15.kp hk18 id)
  have hszz22 := itoaB_size (n := t.port) (by omega)
  refine c_e rfl (e_call ca89 (args := [(Vi (t.port))]) rfl (itoa_spec t.port _ (by omega) hf21)) ?_
  rintro _ w23 ⟨rfl, hk24⟩
  have ka25 := (Kp.then0 ka19 hk24)
  have ks26 := (Kp.then0 ks20 hk24)
  refine ⟨ks26, ?_⟩
  refine o_y rfl (y_sadd rfl rfl (by first | omega | (simp only [size_add]; omega))) ?_
  refine o_y rfl (y_sadd rfl rfl (by first | omega | (simp only [size_add]; omega))) ?_
  refine o_y rfl (y_sadd rfl rfl (by first | omega | (simp only [size_add]; omega))) ?_
  refine o_y rfl (y_assign (v := (.string (((((itoaB p) ++ ({ data := #[32] } : ByteArray)) ++ (itoaB t.port)) ++ ({ data := #[32] } : ByteArray)) ++ (⟨t.addr.l.toArray⟩ : ByteArray)))) rfl) ?_
  refine o_done (hK10 _ _ (genC [(4, (.string (((((itoaB p) ++ ({ data := #[32] } : ByteArray)) ++ (itoaB t.port)) ++ ({ data := #[32] } : ByteArray)) ++ (⟨t.addr.l.toArray⟩ : ByteArray))))] ⟨rfl, trivial⟩ ?_))
  clear hK10; rintro E ⟨g27, -⟩
  refine ret (hret _ _ [(.string (((((itoaB p) ++ ({ data := #[32] } : ByteArray)) ++ (itoaB t.port)) ++ ({ data := #[32] } : ByteArray)) ++ (⟨t.addr.l.toArray⟩ : ByteArray)))] ⟨g27, trivial⟩ ?_)
  exact ⟨rfl, ka25⟩

theorem key6_spec (p : Int) (t : T6) (w : World) (hp : -9223372036854775808 ≤ p ∧ p ≤ 9223372036854775807) (ht : -9223372036854775808 ≤ t.port ∧ t.port ≤ 9223372036854775807) (hT : Tb w) : Rets Tryd.prog 80 #[(.int .i64 p), (t6 t)] w fun v w' => v = .string (k6 p t) ∧ K0 w w' := by
  refine enter Tryd.func80 rfl Tryd.ntmps80 rfl fun Q hret hend E hE => ?_
  have g1 : E 0 = (Vi p) := hE 0
  have g2 : E 1 = (t6 t) := hE 1
  clear hE
  have hsp9 : (⟨#[32]⟩ : ByteArray).size = 1 := rfl; have hsl9 : (⟨t.addr.l.toArray⟩ : ByteArray).size = 16 := rfl
  refine seq fun K3 hK3 => ?_
  refine reg ?_
  refine s_e (e_box (v := (t6 t)) g2) rfl ?_
  rintro _ w4 ⟨rfl, hb5, hk6⟩
  have ka7 : Kp (fun _ => False) w w4 := (Kp.then0 (Kp.refl _ _) hk6)
  refine s_y (y_assign (v := (.string ({ data := #[] } : ByteArray))) rfl) rfl ?_
  refine s_nil (hK3 _ _ (genC [(0, (Vi p)), (3, (Vp w.heap.size 0))] ⟨g1, rfl, trivial⟩ ?_))
  clear hK3; rintro E ⟨g8, g9, -⟩
  refine seq fun K10 hK10 => ?_
  refine regD (fun _ => False) (.take 0 (.take 3 (.take 4 (.take 8 (.take 9 (.take 10 (.one 1 (.take 2 (.one 5 (.take 6 (.take 7 (.take 11 (.take 12 .done))))))))))))) mixed (by kernel_rfl) fun w11 hh12 hk13 => ?_
  have ka14 := (Kp.then0 ka7 hk13)
  refine o_y rfl (y_move (v := (Vi p)) g8) ?_
  refine o_y rfl (y_fld fo32_1 g9) ?_
  refine o_y rfl (y_load (v := (Vi (t.port))) rfl (rd_sc sc3 (On.kp (hk13.get0 hb5) id) rfl)) ?_
  refine o_y rfl (y_fld fo32_0 g9) ?_
  refine o_y rfl (y_sliceA ao30 sz5 rfl) ?_
  refine o_y rfl (y_strof (l := t.addr.l) Tryd.underlying161 Tryd.underlying9 Tryd.underlying5 rfl rfl (fun w hw => ⟨_, _, _, (On.kp (hk13.get0 hb5) id) w hw, rfl⟩)) ?_
  refine o_one ?_
  have hf15 := ((hT.kp hk6 id).kp hk13 id)
  have hszz16 := itoaB_size (n := p) (by omega)
  refine c_e rfl (e_call ca89 (args := [(Vi p)]) rfl (itoa_spec p _ (by omega) hf15)) ?_
  rintro _ w17 ⟨rfl, hk18⟩
  have ka19 := (Kp.then0 ka14 hk18)
  have ks20 : Kp (fun _ => False) w11 w17 := (Kp.then0 (Kp.refl _ _) hk18)
  refine ⟨ks20, ?_⟩
  refine o_y rfl (y_sadd rfl rfl (by first | omega | (simp only [size_add]; omega))) ?_
  refine o_one ?_
  have hf21 := (hf15.kp hk18 id)
  have hszz22 := itoaB_size (n := t.port) (by omega)
  refine c_e rfl (e_call ca89 (args := [(Vi (t.port))]) rfl (itoa_spec t.port _ (by omega) hf21)) ?_
  rintro _ w23 ⟨rfl, hk24⟩
  have ka25 := (Kp.then0 ka19 hk24)
  have ks26 := (Kp.then0 ks20 hk24)
  refine ⟨ks26, ?_⟩
  refine o_y rfl (y_sadd rfl rfl (by first | omega | (simp only [size_add]; omega))) ?_
  refine o_y rfl (y_sadd rfl rfl (by first | omega | (simp only [size_add]; omega))) ?_
  refine o_y rfl (y_sadd rfl rfl (by first | omega | (simp only [size_add]; omega))) ?_
  refine o_y rfl (y_assign (v := (.string (((((itoaB p) ++ ({ data := #[32] } : ByteArray)) ++ (itoaB t.port)) ++ ({ data := #[32] } : ByteArray)) ++ (⟨t.addr.l.toArray⟩ : ByteArray)))) rfl) ?_
  refine o_done (hK10 _ _ (genC [(4, (.string (((((itoaB p) ++ ({ data := #[32] } : ByteArray)) ++ (itoaB t.port)) ++ ({ data := #[32] } : ByteArray)) ++ (⟨t.addr.l.toArray⟩ : ByteArray))))] ⟨rfl, trivial⟩ ?_))
  clear hK10; rintro E ⟨g27, -⟩
  refine ret (hret _ _ [(.string (((((itoaB p) ++ ({ data := #[32] } : ByteArray)) ++ (itoaB t.port)) ++ ({ data := #[32] } : ByteArray)) ++ (⟨t.addr.l.toArray⟩ : ByteArray)))] ⟨g27, trivial⟩ ?_)
  exact ⟨rfl, ka25⟩

theorem bport_spec (n : Int) (w : World) : Rets Tryd.prog 53 #[(.int .i64 n)] w fun v w' => v = .bool (decide (isPort n)) ∧ K0 w w' := by
  refine enter Tryd.func53 rfl Tryd.ntmps53 rfl fun Q hret hend E hE => ?_
  have g1 : E 0 = (Vi n) := hE 0
  clear hE
  refine seq fun K2 hK2 => ?_
  refine reg ?_
  refine s_y (y_assign (v := Vf) rfl) rfl ?_
  refine s_nil (hK2 _ _ (genC [(0, (Vi n))] ⟨g1, trivial⟩ ?_))
  clear hK2; rintro E ⟨g3, -⟩
  refine seq fun K4 hK4 => ?_
  refine reg ?_
  refine s_y (y_move (v := (Vi n)) g3) rfl ?_
  refine s_y (y_geq rfl rfl) rfl ?_
  refine s_y (y_move (v := (.bool (decide ((0 : Int) ≤ n)))) rfl) rfl ?_
  by_cases c5 : (0 : Int) ≤ n
  · refine s_gy (.yes rfl (congrArg Value.bool (decide_eq_true c5))) (y_move (v := (Vi n)) g3) rfl ?_
    refine s_gy (.yes rfl (congrArg Value.bool (decide_eq_true c5))) (y_leq rfl rfl) rfl ?_
    refine s_y (y_pick_t (congrArg Value.bool (decide_eq_true c5)) (v := (.bool (decide ((n : Int) ≤ 65535)))) rfl) rfl ?_
    refine s_y (y_assign (v := (.bool (decide ((n : Int) ≤ 65535)))) rfl) rfl ?_
    refine s_nil (hK4 _ _ (genC [(2, (.bool (decide ((n : Int) ≤ 65535))))] ⟨rfl, trivial⟩ ?_))
    clear hK4; rintro E ⟨g6, -⟩
    refine ret (hret _ _ [(.bool (decide ((n : Int) ≤ 65535)))] ⟨g6, trivial⟩ ?_)
    exact ⟨congrArg Value.bool (by simp [isPort, c5]), (Kp.refl _ _)⟩
  · refine s_no (.no rfl (c := false) (congrArg Value.bool (decide_eq_false c5)) rfl) rfl ?_
    refine s_no (.no rfl (c := false) (congrArg Value.bool (decide_eq_false c5)) rfl) rfl ?_
    refine s_y (y_pick_f (congrArg Value.bool (decide_eq_false c5)) (v := Vf) rfl) rfl ?_
    refine s_y (y_assign (v := Vf) rfl) rfl ?_
    refine s_nil (hK4 _ _ (genC [(2, Vf)] ⟨rfl, trivial⟩ ?_))
    clear hK4; rintro E ⟨g7, -⟩
    refine ret (hret _ _ [Vf] ⟨g7, trivial⟩ ?_)
    exact ⟨congrArg Value.bool (by simp [isPort, c5]), (Kp.refl _ _)⟩

theorem indexi_spec {b : Nat} {l : List Int} {w : World} (x : Int) {n : Nat} (hn : n = l.length) (hmax : l.length ≤ 1000) (hl : Elts (fun n : Int => [.int .i64 n]) 1 w b 0 l) : Rets Tryd.prog 85 #[(.slice (some ⟨b, 0, none⟩) n n), (.int .i64 x)] w fun v w' => (∃ z : Int, v = .int .i64 z ∧ ((z = -1 ∧ x ∉ l) ∨ ∃ i : Nat, z = i ∧ l[i]? = some x)) ∧ K0 w w' := by
  refine enter Tryd.func85 rfl Tryd.ntmps85 rfl fun Q hret hend E hE => ?_
  have g1 : E 0 = (.slice (some ⟨b, 0, none⟩) n n) := hE 0
  have g2 : E 1 = (Vi x) := hE 1
  clear hE
  refine seq fun K3 hK3 => ?_
  refine reg ?_
  refine s_y (y_assign (v := (Vi 0)) rfl) rfl ?_
  refine s_nil (hK3 _ _ (genC [(0, (.slice (some ⟨b, 0, none⟩) n n)), (1, (Vi x))] ⟨g1, g2, trivial⟩ ?_))
  clear hK3; rintro E ⟨g4, g5, -⟩
  refine seq fun K6 hK6 => ?_
  refine seq fun K7 hK7 => ?_
  refine reg ?_
  refine s_y (y_move (v := (.slice (some ⟨b, 0, none⟩) n n)) g4) rfl ?_
  refine s_y (y_lenS so87 rfl) rfl ?_
  refine s_y (y_move (v := (Vi 0)) rfl) rfl ?_
  refine s_nil (hK7 _ _ (genC [(0, (.slice (some ⟨b, 0, none⟩) n n)), (1, (Vi x)), (7, (Vi (((n : Nat) : Int)))), (8, (Vi 0))] ⟨g4, g5, rfl, rfl, trivial⟩ ?_))
  clear hK7; rintro E ⟨g8, g9, g10, g11, -⟩
  refine block ?_
  refine loopG (X := Nat) (fun q_ E w_ => Has E [(0, (.slice (some ⟨b, 0, none⟩) n n)), (1, (Vi x)), (7, (Vi (((n : Nat) : Int)))), (8, (Vi (((q_ : Nat) : Int))))] ∧ Kp (fun _ => False) w w_ ∧ (q_ ≤ l.length) ∧ (∀ j, j < q_ → l[j]? ≠ some x)) (fun q_ => l.length - q_) 0 ⟨⟨g8, g9, g10, g11, trivial⟩, Kp.refl _ _, (show 0 ≤ l.length from (by omega)), (show ∀ j, j < 0 → l[j]? ≠ some x from (by intro j hj; omega))⟩ ?_
  rintro i E w16 ⟨⟨g12, g13, g14, g15, -⟩, hk17, hi19, hi20⟩ K18 hK18
  replace hi19 : i ≤ l.length := hi19
  replace hi20 : ∀ j, j < i → l[j]? ≠ some x := hi20
  have ka21 : Kp (fun _ => False) w w16 := (Kp.then0 (Kp.refl _ _) hk17)
  refine seq fun K22 hK22 => ?_
  refine reg ?_
  refine s_y (y_lss g15 g14) rfl ?_
  refine s_nil (hK22 _ _ (genC [(0, (.slice (some ⟨b, 0, none⟩) n n)), (1, (Vi x)), (7, (Vi (((n : Nat) : Int)))), (8, (Vi (((i : Nat) : Int)))), (9, (.bool (decide ((((i : Nat) : Int) : Int) < ((n : Nat) : Int)))))] ⟨g12, g13, g14, g15, rfl, trivial⟩ ?_))
  clear hK22; rintro E ⟨g23, g24, g25, g26, g27, -⟩
  refine seq fun K28 hK28 => ?_
  refine cond_d g27 (fun c29 => ?_) (fun c29 => ?_)
  · refine skip (hK28 _ _ (genC [(0, (.slice (some ⟨b, 0, none⟩) n n)), (1, (Vi x)), (7, (Vi (((n : Nat) : Int)))), (8, (Vi (((i : Nat) : Int))))] ⟨g23, g24, g25, g26, trivial⟩ ?_))
    clear hK28; rintro E ⟨g30, g31, g32, g33, -⟩
    refine seq fun K34 hK34 => ?_
    refine block ?_
    refine seq fun K35 hK35 => ?_
    refine reg ?_
    refine s_y (y_move (v := (Vi (((i : Nat) : Int)))) g33) rfl ?_
    refine s_y (y_assign (v := (Vi (((i : Nat) : Int)))) rfl) rfl ?_
    refine s_nil (hK35 _ _ (genC [(0, (.slice (some ⟨b, 0, none⟩) n n)), (1, (Vi x)), (5, (Vi (((i : Nat) : Int)))), (7, (Vi (((n : Nat) : Int)))), (8, (Vi (((i : Nat) : Int))))] ⟨g30, g31, rfl, g32, g33, trivial⟩ ?_))
    clear hK35; rintro E ⟨g36, g37, g38, g39, g40, -⟩
    refine seq fun K41 hK41 => ?_
    refine reg ?_
    refine s_y (y_move (v := (Vi x)) g37) rfl ?_
    refine s_y (y_move (v := (.slice (some ⟨b, 0, none⟩) n n)) g36) rfl ?_
    refine s_y (y_move (v := (Vi (((i : Nat) : Int)))) g38) rfl ?_
    refine s_y (y_idx so87 sz3 rfl (i := i) rfl (by omega)) rfl ?_
    have hf42 := (hl.kp hk17 id)
    obtain ⟨x43, hx44⟩ : ∃ x, l[i]? = some x := ⟨_, List.getElem?_eq_getElem (by omega)⟩
    refine s_y (y_load (v := (Vi x43)) rfl (rd_e1 sc3 (EltsOn.now hf42) hx44 rfl)) rfl ?_
    refine s_y (y_eql rfl rfl) rfl ?_
    refine s_nil (hK41 _ _ (genC [(0, (.slice (some ⟨b, 0, none⟩) n n)), (1, (Vi x)), (5, (Vi (((i : Nat) : Int)))), (7, (Vi (((n : Nat) : Int)))), (8, (Vi (((i : Nat) : Int)))), (16, (.bool (decide ((x : Int) = x43))))] ⟨g36, g37, g38, g39, g40, rfl, trivial⟩ ?_))
    clear hK41; rintro E ⟨g45, g46, g47, g48, g49, g50, -⟩
    refine cond_d g50 (fun c51 => ?_) (fun c51 => ?_)
    · refine seq fun K52 hK52 => ?_
      refine reg ?_
      refine s_y (y_move (v := (Vi (((i : Nat) : Int)))) g47) rfl ?_
      refine s_y (y_assign (v := (Vi (((i : Nat) : Int)))) rfl) rfl ?_
      refine s_nil (hK52 _ _ (genC [(4, (Vi (((i : Nat) : Int))))] ⟨rfl, trivial⟩ ?_))
      clear hK52; rintro E ⟨g53, -⟩
      refine ret (hret _ _ [(Vi (((i : Nat) : Int)))] ⟨g53, trivial⟩ ?_)
      exact ⟨⟨_, rfl, .inr ⟨i, rfl, by rw [hx44, c51]⟩⟩, ka21⟩
    · refine skip (hK34 _ _ (genC [(0, (.slice (some ⟨b, 0, none⟩) n n)), (1, (Vi x)), (7, (Vi (((n : Nat) : Int)))), (8, (Vi (((i : Nat) : Int))))] ⟨g45, g46, g48, g49, trivial⟩ ?_))
      clear hK34; rintro E ⟨g54, g55, g56, g57, -⟩
      refine reg ?_
      refine s_y (y_add g57 rfl (c := ((i : Nat) : Int) + 1) (by omega) rfl) rfl ?_
      refine s_y (y_move (v := (Vi (((i : Nat) : Int) + 1))) rfl) rfl ?_
      have kc58 : Kp (fun _ => False) w w16 := (Kp.then0 (Kp.refl _ _) hk17)
      exact s_nil (hK18 (i + 1) _ _ ⟨⟨g54, g55, g56, rfl, trivial⟩, kc58, (show (i + 1) ≤ l.length from (by omega)), (show ∀ j, j < (i + 1) → l[j]? ≠ some x from (by
          intro j hj
          rcases Nat.lt_or_ge j i with h | h
          · exact hi20 j h
          have e2 : j = i := by omega
          rw [e2, hx44]; intro e; injection e with e; exact c51 e.symm))⟩ (by show l.length - (i + 1) < l.length - i; omega))
  · refine exit (hK6 _ _ (genC [] trivial ?_))
    clear hK6; rintro E -
    refine seq fun K59 hK59 => ?_
    refine reg ?_
    refine s_y (y_assign (v := (Vi (-1))) rfl) rfl ?_
    refine s_nil (hK59 _ _ (genC [(4, (Vi (-1)))] ⟨rfl, trivial⟩ ?_))
    clear hK59; rintro E ⟨g60, -⟩
    refine ret (hret _ _ [(Vi (-1))] ⟨g60, trivial⟩ ?_)
    refine ⟨⟨_, rfl, .inl ⟨rfl, fun hx => ?_⟩⟩, ka21⟩
    obtain ⟨j, hj⟩ := List.mem_iff_getElem?.1 hx
    have := (List.getElem?_eq_some_iff.1 hj).1
    exact hi20 j (by omega) hj

def kindI (p : Int) : Int := if p = 1 then 0 else if p = 6 then 1 else if p = 17 then 2 else -1
theorem kind_spec (p : Int) (w : World) : Rets Tryd.prog 51 #[(.int .i64 p)] w fun v w' => v = .int .i64 (kindI p) ∧ K0 w w' := by
  refine enter Tryd.func51 rfl Tryd.ntmps51 rfl fun Q hret hend E hE => ?_
  have g1 : E 0 = (Vi p) := hE 0
  clear hE
  refine seq fun K2 hK2 => ?_
  refine reg ?_
  refine s_y (y_assign (v := (Vi 0)) rfl) rfl ?_
  refine s_nil (hK2 _ _ (genC [(0, (Vi p))] ⟨g1, trivial⟩ ?_))
  clear hK2; rintro E ⟨g3, -⟩
  refine seq fun K4 hK4 => ?_
  refine reg ?_
  refine s_e (e_buildSlice (cs := #[.int .i64 1, .int .i64 6, .int .i64 17]) (e := 3) (vs := [(0, .int .i64 1), (1, .int .i64 6), (2, .int .i64 17)]) rfl (fun _ => by kernel_rfl)) rfl ?_
  rintro _ w5 ⟨rfl, hb6, hk7⟩
  have ka8 : Kp (fun _ => False) w w5 := (Kp.then0 (Kp.refl _ _) hk7)
  refine s_y (y_move (v := (Vi p)) g3) rfl ?_
  have hel9 : Elts (fun n : Int => [Value.int .i64 n]) 1 w5 w.heap.size 0 [1, 6, 17] := ⟨_, _, _, hb6, fun i x hx => by
      match i, hx with
      | 0, hx => simp at hx; subst hx; exact ⟨rfl, rfl⟩
      | 1, hx => simp at hx; subst hx; exact ⟨rfl, rfl⟩
      | 2, hx => simp at hx; subst hx; exact ⟨rfl, rfl⟩
      | i + 3, hx => simp at hx⟩
  refine s_e (e_call ca85 (args := [(.slice (some ⟨w.heap.size, 0, none⟩) 3 3), (Vi p)]) rfl (indexi_spec p (l := [1, 6, 17]) rfl (by decide) hel9)) rfl ?_
  rintro _ w9 ⟨⟨z11, rfl, hz12⟩, hk10⟩
  have ka13 := (Kp.then0 ka8 hk10)
  refine s_y (y_assign (v := (Vi z11)) rfl) rfl ?_
  refine s_nil (hK4 _ _ (genC [(2, (Vi z11))] ⟨rfl, trivial⟩ ?_))
  clear hK4; rintro E ⟨g14, -⟩
  refine ret (hret _ _ [(Vi z11)] ⟨g14, trivial⟩ ?_)
  refine ⟨congrArg (Value.int .i64) ?_, ka13⟩
  rcases hz12 with ⟨h1, h2⟩ | ⟨i, h1, h2⟩
  · simp at h2; unfold kindI; rw [if_neg h2.1, if_neg h2.2.1, if_neg h2.2.2, h1]
  · match i, h2 with
      | 0, h2 => simp at h2; subst h2; exact h1
      | 1, h2 => simp at h2; subst h2; exact h1
      | 2, h2 => simp at h2; subst h2; exact h1
      | i + 3, h2 => simp at h2

end Go.Proofs.YtdcnblafepgheaaDoor
