/-
  Written by a program (wip/walks).
-/
import Derived.Test.YtdcnblafepgheaaDoorDom
import Derived.Test.YtdcnblafepgheaaDoorV6
namespace Go.Proofs.YtdcnblafepgheaaDoor
open Go Go.V
set_option maxRecDepth 100000
structure IxG where
  (ib sb N k : Nat) (n : Int)
structure IxOk (g : IxG) : Prop where
  N : g.N = 2 ^ g.k
  k : g.k ≤ 18
  n1 : 1 ≤ g.n
  n2 : 2 * g.n ≤ g.N
structure IxRaw (g : IxG) (c : Int) (sl : List Slot) (w : World) : Prop where
  blk : Blk w g.ib #[.slice (some ⟨g.sb, 0, none⟩) g.N g.N, .int .i64 g.n, .int .i64 c] 141
  own : Own Slot.cs 3 w g.sb 159 sl
  len : sl.length = g.N
theorem IxRaw.kp {g : IxG} {c : Int} {sl : List Slot} {w w' : World} (h : IxRaw g c sl w) {F : Nat → Prop} (k : Kp F w w') (h1 : ¬ F g.ib) (h2 : ¬ F g.sb) : IxRaw g c sl w' := ⟨k.get h.blk h1, h.own.kp k h2, h.len⟩
theorem IxRaw.ne {g : IxG} {c : Int} {sl : List Slot} {w : World} (h : IxRaw g c sl w) : g.ib ≠ g.sb := ne_TT h.blk h.own.1 (by decide)
theorem IxOk.big {g : IxG} (h : IxOk g) : 1 ≤ g.N ∧ g.N ≤ 262144 := by
  rw [h.N]; exact ⟨Nat.one_le_two_pow, Nat.le_trans (Nat.pow_le_pow_right (by omega) h.k) (by decide)⟩
/-- block g.ib is an index of c keys; M: what it has -/
def IxIs (g : IxG) (M : ByteArray → Option Int) (c : Nat) (w : World) : Prop :=
  ∃ sl, IxRaw g c sl w ∧ Ix.Ok g.N (hN g.N) (tab sl) ∧ Ix.Cont g.N (tab sl) M ∧ Ix.cnt (tab sl) g.N = c ∧ (c : Int) ≤ g.n
theorem IxIs.kp {g : IxG} {M : ByteArray → Option Int} {c : Nat} {w w' : World} (h : IxIs g M c w) {F : Nat → Prop} (k : Kp F w w') (h1 : ¬ F g.ib) (h2 : ¬ F g.sb) : IxIs g M c w' := by
  obtain ⟨sl, h, r⟩ := h; exact ⟨sl, h.kp k h1 h2, r⟩
theorem IxIs.lt {g : IxG} {M : ByteArray → Option Int} {c : Nat} {w : World} (h : IxIs g M c w) : g.ib < w.heap.size ∧ g.sb < w.heap.size := by
  obtain ⟨sl, h, _⟩ := h; exact ⟨lt_of_get h.blk, h.own.lt⟩
theorem hash_spec (k : ByteArray) (w : World) : Rets Tryd.prog 106 #[(.string k)] w fun v w' => v = .int .u32 (hashI k) ∧ K0 w w' := by
  refine enter Tryd.func106 rfl Tryd.ntmps106 rfl fun Q hret hend E hE => ?_
  have g1 : E 0 = (.string k) := hE 0
  clear hE
  refine seq fun K2 hK2 => ?_
  refine reg ?_
  refine s_y (y_assign (v := (.int .u32 0)) rfl) rfl ?_
  refine s_nil (hK2 _ _ (genC [(0, (.string k))] ⟨g1, trivial⟩ ?_))
  clear hK2; rintro E ⟨g3, -⟩
  refine seq fun K4 hK4 => ?_
  refine reg ?_
  refine s_y (y_assign (v := (.int .u32 2166136261)) rfl) rfl ?_
  refine s_nil (hK4 _ _ (genC [(0, (.string k)), (3, (.int .u32 2166136261))] ⟨g3, rfl, trivial⟩ ?_))
  clear hK4; rintro E ⟨g5, g6, -⟩
  refine seq fun K7 hK7 => ?_
  refine seq fun K8 hK8 => ?_
  refine reg ?_
  refine s_y (y_move (v := (.string k)) g5) rfl ?_
  refine s_e (e_rangeS Tryd.underlying9 rfl) rfl ?_
  rintro _ w9 ⟨rfl, hit10, hk11⟩
  have ka12 : Kp (fun _ => False) w w9 := (Kp.then0 (Kp.refl _ _) hk11)
  refine s_nil (hK8 _ _ (genC [(3, (.int .u32 2166136261)), (7, (Vp w.heap.size 0))] ⟨g6, rfl, trivial⟩ ?_))
  clear hK8; rintro E ⟨g13, g14, -⟩
  refine block ?_
  refine loopG (X := Nat × Nat × Int) (fun q_ E w_ => Has E [(3, (.int .u32 (q_.2.2))), (7, (Vp w.heap.size 0))] ∧ Kp (· = w.heap.size) w9 w_ ∧ (SIter w_ w.heap.size k q_.1) ∧ (hgo k q_.2.1 q_.1 q_.2.2 = hashI k) ∧ (k.size ≤ q_.1 + q_.2.1)) (fun q_ => q_.2.1) (0, k.size, 2166136261) ⟨⟨g13, g14, trivial⟩, Kp.refl _ _, (show SIter w9 w.heap.size k 0 from hit10), (show hgo k k.size 0 2166136261 = hashI k from rfl), (show k.size ≤ 0 + k.size from (by omega))⟩ ?_
  rintro ⟨pos, fu, h⟩ E w17 ⟨⟨g15, g16, -⟩, hk18, hi20, hi21, hi22⟩ K19 hK19
  replace g15 : E 3 = (.int .u32 h) := g15
  replace g16 : E 7 = (Vp w.heap.size 0) := g16
  replace hi20 : SIter w17 w.heap.size k pos := hi20
  replace hi21 : hgo k fu pos h = hashI k := hi21
  replace hi22 : k.size ≤ pos + fu := hi22
  have ka23 := (Kp.fresh ka12 hk18 fun _ e => nl (nl (Nat.le_refl _) (Nat.le_refl _)) (Nat.le_of_eq e.symm))
  refine seq fun K24 hK24 => ?_
  refine reg ?_
  by_cases c25 : pos < k.size
  · refine s_e (e_nextS_more hi20 c25 g16) rfl ?_
    rintro _ w26 ⟨rfl, hit28, hk27⟩
    have ka29 := (Kp.fresh ka23 hk27 fun _ e => nl (nl (Nat.le_refl _) (Nat.le_refl _)) (Nat.le_of_eq e.symm))
    refine s_y (y_ext rfl (v := Vt) rfl) rfl ?_
    refine s_nil (hK24 _ _ (genC [(3, (.int .u32 h)), (7, (Vp w.heap.size 0)), (8, (.tuple #[Vt, (Vi (((pos : Nat) : Int))), (.int .i32 (Int.ofNat (Utf8.decode k pos).1))])), (9, Vt)] ⟨g15, g16, rfl, rfl, trivial⟩ ?_))
    clear hK24; rintro E ⟨g30, g31, g32, g33, -⟩
    refine seq fun K34 hK34 => ?_
    refine cond_t g33 ?_
    refine skip (hK34 _ _ (genC [(3, (.int .u32 h)), (7, (Vp w.heap.size 0)), (8, (.tuple #[Vt, (Vi (((pos : Nat) : Int))), (.int .i32 (Int.ofNat (Utf8.decode k pos).1))]))] ⟨g30, g31, g32, trivial⟩ ?_))
    clear hK34; rintro E ⟨g35, g36, g37, -⟩
    refine block ?_
    refine seq fun K38 hK38 => ?_
    refine reg ?_
    refine s_y (y_ext g37 (v := (.int .i32 (Int.ofNat (Utf8.decode k pos).1))) rfl) rfl ?_
    refine s_y (y_assign (v := (.int .i32 (Int.ofNat (Utf8.decode k pos).1))) rfl) rfl ?_
    refine s_nil (hK38 _ _ (genC [(3, (.int .u32 h)), (5, (.int .i32 (Int.ofNat (Utf8.decode k pos).1))), (7, (Vp w.heap.size 0))] ⟨g35, rfl, g36, trivial⟩ ?_))
    clear hK38; rintro E ⟨g39, g40, g41, -⟩
    refine reg ?_
    refine s_y (y_move (v := (.int .u32 h)) g39) rfl ?_
    refine s_y (y_move (v := (.int .i32 (Int.ofNat (Utf8.decode k pos).1))) g40) rfl ?_
    refine s_y (y_conv (m := IntKind.u32.wrap (Int.ofNat (Utf8.decode k pos).1)) Tryd.underlying176 ⟨_, Tryd.underlying21⟩ rfl rfl) rfl ?_
    refine s_y (y_xor rfl rfl) rfl ?_
    refine s_y (y_mulw rfl rfl) rfl ?_
    refine s_y (y_assign (v := (.int .u32 (IntKind.u32.wrap ((IntKind.u32.wrap ((BitVec.ofInt IntKind.u32.bits (h) ^^^ BitVec.ofInt IntKind.u32.bits (IntKind.u32.wrap (Int.ofNat (Utf8.decode k pos).1))).toNat)) * 16777619)))) rfl) rfl ?_
    have hwp9 := width_pos k pos c25
    obtain ⟨f9, hf9⟩ : ∃ f, fu = f + 1 := ⟨fu - 1, by omega⟩
    have kc42 : Kp (· = w.heap.size) w9 w17 := (Kp.trans (Kp.refl _ _) hk18 (fun _ _ e => e))
    have kc43 : Kp (· = w.heap.size) w9 w26 := (Kp.trans kc42 hk27 (fun _ _ e => e))
    exact s_nil (hK19 ((pos + (Utf8.decode k pos).2), f9, (hstep h (Utf8.decode k pos).1)) _ _ ⟨⟨rfl, g41, trivial⟩, kc43, (show SIter w26 w.heap.size k (pos + (Utf8.decode k pos).2) from hit28), (show hgo k f9 (pos + (Utf8.decode k pos).2) (hstep h (Utf8.decode k pos).1) = hashI k from (by rw [← hgo_step c25, ← hf9]; exact hi21)), (show k.size ≤ (pos + (Utf8.decode k pos).2) + f9 from (by omega))⟩ (by show f9 < fu; omega))
  · refine s_e (e_nextS_done hi20 c25 g16) rfl ?_
    rintro _ w44 ⟨rfl, hk45⟩
    have ka47 := (Kp.then0 ka23 hk45)
    refine s_y (y_ext rfl (v := Vf) rfl) rfl ?_
    refine s_nil (hK24 _ _ (genC [(3, (.int .u32 h)), (7, (Vp w.heap.size 0)), (8, (.tuple #[Vf])), (9, Vf)] ⟨g15, g16, rfl, rfl, trivial⟩ ?_))
    clear hK24; rintro E ⟨g48, g49, g50, g51, -⟩
    refine seq fun K52 hK52 => ?_
    refine cond_f g51 ?_
    refine exit (hK7 _ _ (genC [(3, (.int .u32 h))] ⟨g48, trivial⟩ ?_))
    clear hK7; rintro E ⟨g53, -⟩
    refine seq fun K54 hK54 => ?_
    refine reg ?_
    refine s_y (y_move (v := (.int .u32 h)) g53) rfl ?_
    refine s_y (y_assign (v := (.int .u32 h)) rfl) rfl ?_
    refine s_nil (hK54 _ _ (genC [(2, (.int .u32 h))] ⟨rfl, trivial⟩ ?_))
    clear hK54; rintro E ⟨g55, -⟩
    refine ret (hret _ _ [(.int .u32 h)] ⟨g55, trivial⟩ ?_)
    exact ⟨congrArg (Value.int .u32) (by rw [← hi21, hgo_end c25]), ka47⟩

theorem ixnone_spec {g : IxG} {c : Int} {sl : List Slot} {w : World} (ok : IxOk g) (h : IxRaw g c sl w)  : Rets Tryd.prog 87 #[(.pointer (some ⟨g.ib, 0, none⟩))] w fun v w' => v = .bool false ∧ K0 w w' := by
  refine enter Tryd.func87 rfl Tryd.ntmps87 rfl fun Q hret hend E hE => ?_
  have g1 : E 0 = (Vp g.ib 0) := hE 0
  clear hE
  have hb0 := h.blk; have ho0 := h.own; have hlen0 := h.len; have hib := h.ne; have hbig := ok.big; have hk0 := ok.k; have hn10 := ok.n1; have hn20 := ok.n2
  refine seq fun K2 hK2 => ?_
  refine reg ?_
  refine s_y (y_assign (v := Vf) rfl) rfl ?_
  refine s_nil (hK2 _ _ (genC [(0, (Vp g.ib 0))] ⟨g1, trivial⟩ ?_))
  clear hK2; rintro E ⟨g3, -⟩
  refine seq fun K4 hK4 => ?_
  refine reg ?_
  refine s_y (y_move (v := (Vp g.ib 0)) g3) rfl ?_
  refine s_y (y_peq Tryd.underlying88 rfl rfl) rfl ?_
  refine s_y (y_move (v := Vf) rfl) rfl ?_
  refine s_gy (.yes rfl rfl) (y_move (v := (Vp g.ib 0)) g3) rfl ?_
  refine s_gy (.yes rfl rfl) (y_nil rfl) rfl ?_
  refine s_gy (.yes rfl rfl) (y_fld fo141_0 rfl) rfl ?_
  refine s_gy (.yes rfl rfl) (y_load (v := (.slice (some ⟨g.sb, 0, none⟩) g.N g.N)) rfl (rd_sc sc139 (On.now hb0) rfl)) rfl ?_
  refine s_gy (.yes rfl rfl) (y_lenS so139 rfl) rfl ?_
  refine s_gy (.yes rfl rfl) (y_eql rfl rfl) rfl ?_
  refine s_y (y_pick_f rfl (v := (.bool (decide ((((g.N : Nat) : Int) : Int) = 0)))) rfl) rfl ?_
  refine s_y (y_assign (v := (.bool (decide ((((g.N : Nat) : Int) : Int) = 0)))) rfl) rfl ?_
  refine s_nil (hK4 _ _ (genC [(2, (.bool (decide ((((g.N : Nat) : Int) : Int) = 0))))] ⟨rfl, trivial⟩ ?_))
  clear hK4; rintro E ⟨g5, -⟩
  refine ret (hret _ _ [(.bool (decide ((((g.N : Nat) : Int) : Int) = 0)))] ⟨g5, trivial⟩ ?_)
  refine ⟨congrArg Value.bool (decide_eq_false (by omega)), (Kp.refl _ _)⟩

theorem hN_lt {N : Nat} (h : 1 ≤ N) (k : ByteArray) : hN N k < N := Nat.mod_lt _ h
theorem dist_le {N a b : Nat} (ha : a < N) (hb : b < N) : Ix.dist N a b < N := by unfold Ix.dist; split <;> omega
theorem find_spec {g : IxG} {c : Int} {sl : List Slot} {w : World} (ok : IxOk g) (h : IxRaw g c sl w) (key : ByteArray) (he : ∃ e, e < g.N ∧ tab sl e = none) : Rets Tryd.prog 88 #[(.pointer (some ⟨g.ib, 0, none⟩)), (.string key)] w fun v w' => (∃ (i : Nat) (l : Int), v = .tuple #[.int .i64 i, .int .i64 l] ∧ Ix.Finds g.N (hN g.N) (tab sl) key i) ∧ K0 w w' := by
  refine enter Tryd.func88 rfl Tryd.ntmps88 rfl fun Q hret hend E hE => ?_
  have g1 : E 0 = (Vp g.ib 0) := hE 0
  have g2 : E 1 = (.string key) := hE 1
  clear hE
  have hb0 := h.blk; have ho0 := h.own; have hlen0 := h.len; have hib := h.ne; have hbig := ok.big; have hk0 := ok.k; have hn10 := ok.n1; have hn20 := ok.n2
  obtain ⟨e, heN, heT⟩ := he; have hhr := hash_range key; have hhl := hN_lt (N := g.N) (by omega) key; have hdl := dist_le hhl heN
  refine seq fun K3 hK3 => ?_
  refine reg ?_
  refine s_y (y_assign (v := (Vi 0)) rfl) rfl ?_
  refine s_y (y_assign (v := (Vi 0)) rfl) rfl ?_
  refine s_nil (hK3 _ _ (genC [(0, (Vp g.ib 0)), (1, (.string key))] ⟨g1, g2, trivial⟩ ?_))
  clear hK3; rintro E ⟨g4, g5, -⟩
  refine seq fun K6 hK6 => ?_
  refine regD (fun _ => False) (.take 0 (.take 3 (.take 4 (.take 5 (.take 6 (.take 7 (.take 8 (.one 1 (.take 2 (.take 9 (.take 10 .done))))))))))) mixed (by kernel_rfl) fun w7 hh8 hk9 => ?_
  have ka10 : Kp (fun _ => False) w w7 := (Kp.then0 (Kp.refl _ _) hk9)
  refine o_y rfl (y_move (v := (.string key)) g5) ?_
  refine o_y rfl (y_move (v := (Vp g.ib 0)) g4) ?_
  refine o_y rfl (y_nil rfl) ?_
  refine o_y rfl (y_fld fo141_0 rfl) ?_
  refine o_y rfl (y_load (v := (.slice (some ⟨g.sb, 0, none⟩) g.N g.N)) rfl (rd_sc sc139 (On.kp (hk9.get0 hb0) id) rfl)) ?_
  refine o_y rfl (y_lenS so139 rfl) ?_
  refine o_y rfl (y_sub rfl rfl (c := ((g.N : Nat) : Int) - 1) (by omega) rfl) ?_
  refine o_one ?_
  refine c_e rfl (e_call ca106 (args := [(.string key)]) rfl (hash_spec key _)) ?_
  rintro _ w11 ⟨rfl, hk12⟩
  have ka13 := (Kp.then0 ka10 hk12)
  have ks14 : Kp (fun _ => False) w7 w11 := (Kp.then0 (Kp.refl _ _) hk12)
  refine ⟨ks14, ?_⟩
  refine o_y rfl (y_conv (m := (((hashI key).toNat : Nat) : Int)) Tryd.underlying3 ⟨_, Tryd.underlying176⟩ rfl (by rw [wrap_i64 (by omega)]; omega)) ?_
  refine o_y rfl (y_mask (a := ((hashI key).toNat)) (r := (hN g.N key)) rfl rfl ok.N (by omega) (by omega) rfl) ?_
  refine o_y rfl (y_assign (v := (Vi ((((hN g.N key) : Nat) : Int)))) rfl) ?_
  refine o_done (hK6 _ _ (genC [(0, (Vp g.ib 0)), (1, (.string key)), (4, (Vi ((((hN g.N key) : Nat) : Int))))] ⟨g4, g5, rfl, trivial⟩ ?_))
  clear hK6; rintro E ⟨g15, g16, g17, -⟩
  refine seq fun K18 hK18 => ?_
  refine seq fun K19 hK19 => ?_
  refine reg ?_
  refine s_y (y_assign (v := (Vi 1)) rfl) rfl ?_
  refine s_nil (hK19 _ _ (genC [(0, (Vp g.ib 0)), (1, (.string key)), (4, (Vi ((((hN g.N key) : Nat) : Int)))), (5, (Vi 1))] ⟨g15, g16, g17, rfl, trivial⟩ ?_))
  clear hK19; rintro E ⟨g20, g21, g22, g23, -⟩
  refine block ?_
  refine loopG (X := Nat × Int) (fun q_ E w_ => Has E [(0, (Vp g.ib 0)), (1, (.string key)), (4, (Vi (((q_.1 : Nat) : Int)))), (5, (Vi (q_.2)))] ∧ Kp (fun _ => False) w11 w_ ∧ (q_.1 < g.N) ∧ (∀ u, u < g.N → Ix.Btw (hN g.N key) q_.1 u → ∃ k' v', tab sl u = some (k', v') ∧ k' ≠ key) ∧ (1 ≤ q_.2) ∧ (q_.2 + (Ix.dist g.N q_.1 e : Int) ≤ g.N + 1)) (fun q_ => Ix.dist g.N q_.1 e) ((hN g.N key), 1) ⟨⟨g20, g21, g22, g23, trivial⟩, Kp.refl _ _, (show (hN g.N key) < g.N from hhl), (show ∀ u, u < g.N → Ix.Btw (hN g.N key) (hN g.N key) u → ∃ k' v', tab sl u = some (k', v') ∧ k' ≠ key from (fun u _ hb => absurd hb (Ix.btw_irrefl _ _))), (show 1 ≤ 1 from (by omega)), (show 1 + (Ix.dist g.N (hN g.N key) e : Int) ≤ g.N + 1 from (by omega))⟩ ?_
  rintro ⟨i, l⟩ E w28 ⟨⟨g24, g25, g26, g27, -⟩, hk29, hi31, hi32, hi33, hi34⟩ K30 hK30
  replace g24 : E 0 = (Vp g.ib 0) := g24
  replace g25 : E 1 = (.string key) := g25
  replace g26 : E 4 = (Vi (((i : Nat) : Int))) := g26
  replace g27 : E 5 = (Vi l) := g27
  replace hi31 : i < g.N := hi31
  replace hi32 : ∀ u, u < g.N → Ix.Btw (hN g.N key) i u → ∃ k' v', tab sl u = some (k', v') ∧ k' ≠ key := hi32
  replace hi33 : 1 ≤ l := hi33
  replace hi34 : l + (Ix.dist g.N i e : Int) ≤ g.N + 1 := hi34
  have ka35 := (Kp.then0 ka13 hk29)
  refine seq fun K36 hK36 => ?_
  refine seq fun K37 hK37 => ?_
  refine reg ?_
  refine s_y (y_move (v := (Vp g.ib 0)) g24) rfl ?_
  refine s_y (y_nil rfl) rfl ?_
  refine s_y (y_fld fo141_0 rfl) rfl ?_
  have hb38 := (hk29.get0 (hk12.get0 (hk9.get0 hb0)))
  refine s_y (y_load (v := (.slice (some ⟨g.sb, 0, none⟩) g.N g.N)) rfl (rd_sc sc139 (On.now hb38) rfl)) rfl ?_
  refine s_y (y_move (v := (Vi (((i : Nat) : Int)))) g26) rfl ?_
  refine s_y (y_idx so139 sz159 rfl (i := i) rfl (by omega)) rfl ?_
  refine s_y (y_fld fo159_2 rfl) rfl ?_
  have hf39 := (((ho0.kp hk9 id).kp hk12 id).kp hk29 id)
  obtain ⟨x40, hx41⟩ : ∃ x, sl[i]? = some x := ⟨_, List.getElem?_eq_getElem (by omega)⟩
  refine s_y (y_load (v := (.bool (x40.full))) rfl (rd_ef sc4 (EltsOn.now (Own.all hf39)) hx41 rfl)) rfl ?_
  refine s_y (y_move (v := (.bool (x40.full))) rfl) rfl ?_
  refine (Bool.eq_false_or_eq_true (x40.full)).elim (fun c42 => ?_) (fun c42 => ?_)
  · refine s_gy (.yes rfl (congrArg Value.bool c42)) (y_move (v := (Vp g.ib 0)) g24) rfl ?_
    refine s_gy (.yes rfl (congrArg Value.bool c42)) (y_nil rfl) rfl ?_
    refine s_gy (.yes rfl (congrArg Value.bool c42)) (y_fld fo141_0 rfl) rfl ?_
    refine s_gy (.yes rfl (congrArg Value.bool c42)) (y_load (v := (.slice (some ⟨g.sb, 0, none⟩) g.N g.N)) rfl (rd_sc sc139 (On.now hb38) rfl)) rfl ?_
    refine s_gy (.yes rfl (congrArg Value.bool c42)) (y_move (v := (Vi (((i : Nat) : Int)))) g26) rfl ?_
    refine s_gy (.yes rfl (congrArg Value.bool c42)) (y_idx so139 sz159 rfl (i := i) rfl (by omega)) rfl ?_
    refine s_gy (.yes rfl (congrArg Value.bool c42)) (y_fld fo159_0 rfl) rfl ?_
    refine s_gy (.yes rfl (congrArg Value.bool c42)) (y_load (v := (.string x40.key)) rfl (rd_ef sc9 (EltsOn.now (Own.all hf39)) hx41 rfl)) rfl ?_
    refine s_gy (.yes rfl (congrArg Value.bool c42)) (y_move (v := (.string key)) g25) rfl ?_
    refine s_gy (.yes rfl (congrArg Value.bool c42)) (y_neqS rfl rfl) rfl ?_
    refine s_y (y_pick_t (congrArg Value.bool c42) (v := (.bool (decide (x40.key ≠ key)))) rfl) rfl ?_
    refine s_nil (hK37 _ _ (genC [(0, (Vp g.ib 0)), (1, (.string key)), (4, (Vi (((i : Nat) : Int)))), (5, (Vi l)), (35, (.bool (decide (x40.key ≠ key))))] ⟨g24, g25, g26, g27, rfl, trivial⟩ ?_))
    clear hK37; rintro E ⟨g43, g44, g45, g46, g47, -⟩
    refine cond_d g47 (fun c48 => ?_) (fun c48 => ?_)
    · refine skip (hK36 _ _ (genC [(0, (Vp g.ib 0)), (1, (.string key)), (4, (Vi (((i : Nat) : Int)))), (5, (Vi l))] ⟨g43, g44, g45, g46, trivial⟩ ?_))
      clear hK36; rintro E ⟨g49, g50, g51, g52, -⟩
      refine seq fun K53 hK53 => ?_
      refine block ?_
      refine reg ?_
      refine s_y (y_move (v := (Vi (((i : Nat) : Int)))) g51) rfl ?_
      refine s_y (y_add rfl rfl (c := ((i : Nat) : Int) + 1) (by omega) rfl) rfl ?_
      refine s_y (y_move (v := (Vp g.ib 0)) g49) rfl ?_
      refine s_y (y_nil rfl) rfl ?_
      refine s_y (y_fld fo141_0 rfl) rfl ?_
      refine s_y (y_load (v := (.slice (some ⟨g.sb, 0, none⟩) g.N g.N)) rfl (rd_sc sc139 (On.now hb38) rfl)) rfl ?_
      refine s_y (y_lenS so139 rfl) rfl ?_
      refine s_y (y_sub rfl rfl (c := ((g.N : Nat) : Int) - 1) (by omega) rfl) rfl ?_
      refine s_y (y_mask (a := i + 1) (r := (Ix.nxt g.N i)) rfl rfl ok.N (by omega) (by omega) (nxt_mod (by omega))) rfl ?_
      refine s_y (y_assign (v := (Vi ((((Ix.nxt g.N i) : Nat) : Int)))) rfl) rfl ?_
      refine s_nil (hK53 _ _ (genC [(0, (Vp g.ib 0)), (1, (.string key)), (4, (Vi ((((Ix.nxt g.N i) : Nat) : Int)))), (5, (Vi l))] ⟨g49, g50, rfl, g52, trivial⟩ ?_))
      clear hK53; rintro E ⟨g54, g55, g56, g57, -⟩
      refine reg ?_
      refine s_y (y_move (v := (Vi l)) g57) rfl ?_
      refine s_y (y_add rfl rfl (c := l + 1) (by omega) rfl) rfl ?_
      refine s_y (y_assign (v := (Vi (l + 1))) rfl) rfl ?_
      have hne9 : i ≠ e := fun e9 => by rw [← e9, tab_full hx41 c42] at heT; cases heT
      have hd9 := Ix.dist_nxt hi31 heN hne9
      have kc58 : Kp (fun _ => False) w11 w28 := (Kp.then0 (Kp.refl _ _) hk29)
      exact s_nil (hK30 ((Ix.nxt g.N i), (l + 1)) _ _ ⟨⟨g54, g55, g56, rfl, trivial⟩, kc58, (show (Ix.nxt g.N i) < g.N from (Ix.nxt_lt hi31)), (show ∀ u, u < g.N → Ix.Btw (hN g.N key) (Ix.nxt g.N i) u → ∃ k' v', tab sl u = some (k', v') ∧ k' ≠ key from (by
          intro u hu hb
          rcases Ix.btw_nxt hi31 hu hhl hb with e9 | h9
          · exact ⟨_, _, by rw [e9]; exact tab_full hx41 c42, c48⟩
          · exact hi32 u hu h9)), (show 1 ≤ (l + 1) from (by omega)), (show (l + 1) + (Ix.dist g.N (Ix.nxt g.N i) e : Int) ≤ g.N + 1 from (by omega))⟩ (by show Ix.dist g.N (Ix.nxt g.N i) e < Ix.dist g.N i e; omega))
    · refine exit (hK18 _ _ (genC [(4, (Vi (((i : Nat) : Int)))), (5, (Vi l))] ⟨g45, g46, trivial⟩ ?_))
      clear hK18; rintro E ⟨g59, g60, -⟩
      refine seq fun K61 hK61 => ?_
      refine reg ?_
      refine s_y (y_move (v := (Vi (((i : Nat) : Int)))) g59) rfl ?_
      refine s_y (y_move (v := (Vi l)) g60) rfl ?_
      refine s_y (y_assign (v := (Vi (((i : Nat) : Int)))) rfl) rfl ?_
      refine s_y (y_assign (v := (Vi l)) rfl) rfl ?_
      refine s_nil (hK61 _ _ (genC [(4, (Vi (((i : Nat) : Int)))), (5, (Vi l))] ⟨rfl, rfl, trivial⟩ ?_))
      clear hK61; rintro E ⟨g62, g63, -⟩
      refine ret (hret _ _ [(Vi (((i : Nat) : Int))), (Vi l)] ⟨g62, g63, trivial⟩ ?_)
      exact ⟨⟨i, l, rfl, hi31, hi32, (.inr ⟨_, by rw [tab_full hx41 c42, Decidable.not_not.1 c48]⟩)⟩, ka35⟩
  · refine s_no (.no rfl (c := false) (congrArg Value.bool c42) rfl) rfl ?_
    refine s_no (.no rfl (c := false) (congrArg Value.bool c42) rfl) rfl ?_
    refine s_no (.no rfl (c := false) (congrArg Value.bool c42) rfl) rfl ?_
    refine s_no (.no rfl (c := false) (congrArg Value.bool c42) rfl) rfl ?_
    refine s_no (.no rfl (c := false) (congrArg Value.bool c42) rfl) rfl ?_
    refine s_no (.no rfl (c := false) (congrArg Value.bool c42) rfl) rfl ?_
    refine s_no (.no rfl (c := false) (congrArg Value.bool c42) rfl) rfl ?_
    refine s_no (.no rfl (c := false) (congrArg Value.bool c42) rfl) rfl ?_
    refine s_no (.no rfl (c := false) (congrArg Value.bool c42) rfl) rfl ?_
    refine s_no (.no rfl (c := false) (congrArg Value.bool c42) rfl) rfl ?_
    refine s_y (y_pick_f (congrArg Value.bool c42) (v := Vf) rfl) rfl ?_
    refine s_nil (hK37 _ _ (genC [(0, (Vp g.ib 0)), (1, (.string key)), (4, (Vi (((i : Nat) : Int)))), (5, (Vi l)), (35, Vf)] ⟨g24, g25, g26, g27, rfl, trivial⟩ ?_))
    clear hK37; rintro E ⟨g64, g65, g66, g67, g68, -⟩
    refine cond_f g68 ?_
    refine exit (hK18 _ _ (genC [(4, (Vi (((i : Nat) : Int)))), (5, (Vi l))] ⟨g66, g67, trivial⟩ ?_))
    clear hK18; rintro E ⟨g69, g70, -⟩
    refine seq fun K71 hK71 => ?_
    refine reg ?_
    refine s_y (y_move (v := (Vi (((i : Nat) : Int)))) g69) rfl ?_
    refine s_y (y_move (v := (Vi l)) g70) rfl ?_
    refine s_y (y_assign (v := (Vi (((i : Nat) : Int)))) rfl) rfl ?_
    refine s_y (y_assign (v := (Vi l)) rfl) rfl ?_
    refine s_nil (hK71 _ _ (genC [(4, (Vi (((i : Nat) : Int)))), (5, (Vi l))] ⟨rfl, rfl, trivial⟩ ?_))
    clear hK71; rintro E ⟨g72, g73, -⟩
    refine ret (hret _ _ [(Vi (((i : Nat) : Int))), (Vi l)] ⟨g72, g73, trivial⟩ ?_)
    exact ⟨⟨i, l, rfl, hi31, hi32, (.inl (tab_empty hx41 c42))⟩, ka35⟩

theorem get_fact {sl : List Slot} {i : Nat} {x : Slot} {M : ByteArray → Option Int} {key : ByteArray} (hx : sl[i]? = some x) (hT : tab sl i = (M key).map fun v => (key, v)) : (M key).isSome = x.full ∧ (∀ v, M key = some v → x.v = v ∧ x.key = key) := by
  rw [tab_at hx] at hT
  cases hM : M key with
  | none => rw [hM] at hT; cases hF : x.full with
    | false => exact ⟨rfl, fun v e => by cases e⟩
    | true => rw [hF] at hT; cases hT
  | some v => rw [hM] at hT; cases hF : x.full with
    | false => rw [hF] at hT; cases hT
    | true =>
      rw [hF] at hT
      simp only [if_true, Option.map_some, Option.some.injEq, Prod.mk.injEq] at hT
      exact ⟨rfl, fun v' e => by cases e; exact ⟨hT.2, hT.1⟩⟩
theorem get_spec {g : IxG} {M : ByteArray → Option Int} {c : Nat} {w : World} (ok : IxOk g) (h : IxIs g M c w) (key : ByteArray)  : Rets Tryd.prog 73 #[(.pointer (some ⟨g.ib, 0, none⟩)), (.string key)] w fun v w' => (∃ u : Int, v = .tuple #[.int .i64 u, .bool (M key).isSome] ∧ ∀ x, M key = some x → u = x) ∧ K0 w w' := by
  refine enter Tryd.func73 rfl Tryd.ntmps73 rfl fun Q hret hend E hE => ?_
  have g1 : E 0 = (Vp g.ib 0) := hE 0
  have g2 : E 1 = (.string key) := hE 1
  clear hE
  obtain ⟨sl, h, hok, hct, hcnt, hcn⟩ := h
  have hb0 := h.blk; have ho0 := h.own; have hlen0 := h.len; have hib := h.ne; have hbig := ok.big; have hk0 := ok.k; have hn10 := ok.n1; have hn20 := ok.n2
  have hemp0 : ∃ e, e < g.N ∧ tab sl e = none := Ix.cnt_empty (by omega)
  refine seq fun K3 hK3 => ?_
  refine reg ?_
  refine s_y (y_assign (v := (Vi 0)) rfl) rfl ?_
  refine s_y (y_assign (v := Vf) rfl) rfl ?_
  refine s_nil (hK3 _ _ (genC [(0, (Vp g.ib 0)), (1, (.string key)), (4, (Vi 0))] ⟨g1, g2, rfl, trivial⟩ ?_))
  clear hK3; rintro E ⟨g4, g5, g6, -⟩
  refine seq fun K7 hK7 => ?_
  refine seq fun K8 hK8 => ?_
  refine reg ?_
  refine s_y (y_move (v := (Vp g.ib 0)) g4) rfl ?_
  refine s_e (e_call ca87 (args := [(Vp g.ib 0)]) rfl (ixnone_spec ok ⟨hb0, ho0, by simp [hlen0]⟩)) rfl ?_
  rintro _ w9 ⟨rfl, hk10⟩
  have ka11 : Kp (fun _ => False) w w9 := (Kp.then0 (Kp.refl _ _) hk10)
  refine s_nil (hK8 _ _ (genC [(0, (Vp g.ib 0)), (1, (.string key)), (4, (Vi 0)), (9, Vf)] ⟨g4, g5, g6, rfl, trivial⟩ ?_))
  clear hK8; rintro E ⟨g12, g13, g14, g15, -⟩
  refine cond_f g15 ?_
  refine skip (hK7 _ _ (genC [(0, (Vp g.ib 0)), (1, (.string key))] ⟨g12, g13, trivial⟩ ?_))
  clear hK7; rintro E ⟨g16, g17, -⟩
  refine seq fun K18 hK18 => ?_
  refine reg ?_
  refine s_y (y_move (v := (Vp g.ib 0)) g16) rfl ?_
  refine s_y (y_move (v := (.string key)) g17) rfl ?_
  have hf19 := (ho0.kp hk10 id)
  have hb20 := (hk10.get0 hb0)
  refine s_e (e_call ca88 (args := [(Vp g.ib 0), (.string key)]) rfl (find_spec ok (sl := sl) ⟨hb20, hf19, by simp [hlen0]⟩ key hemp0)) rfl ?_
  rintro _ w21 ⟨⟨i23, l24, rfl, hf25⟩, hk22⟩
  have ka26 := (Kp.then0 ka11 hk22)
  have hili23 := hf25.lt
  have hf27 := (hf19.kp hk22 id)
  obtain ⟨x28, hx29⟩ : ∃ x, sl[i23]? = some x := ⟨_, List.getElem?_eq_getElem (by omega)⟩
  obtain ⟨hg1, hg2⟩ := get_fact hx29 (hct.get hok hf25)
  refine s_y (y_move (v := (.tuple #[(Vi (((i23 : Nat) : Int))), (Vi l24)])) rfl) rfl ?_
  refine s_y (y_ext rfl (v := (Vi (((i23 : Nat) : Int)))) rfl) rfl ?_
  refine s_y (y_ext rfl (v := (Vi l24)) rfl) rfl ?_
  refine s_y (y_assign (v := (Vi (((i23 : Nat) : Int)))) rfl) rfl ?_
  refine s_y (y_assign (v := (Vi l24)) rfl) rfl ?_
  refine s_nil (hK18 _ _ (genC [(0, (Vp g.ib 0)), (6, (Vi (((i23 : Nat) : Int))))] ⟨g16, rfl, trivial⟩ ?_))
  clear hK18; rintro E ⟨g30, g31, -⟩
  refine seq fun K32 hK32 => ?_
  refine regD (fun _ => False) (.take 0 (.take 1 (.take 2 (.take 3 (.take 4 (.take 5 (.take 6 (.take 7 (.take 8 (.take 9 (.take 10 (.take 11 (.take 12 (.take 13 (.take 14 (.take 15 (.take 16 (.take 17 .done)))))))))))))))))) mixed (by kernel_rfl) fun w33 hh34 hk35 => ?_
  have ka36 := (Kp.then0 ka26 hk35)
  refine o_y rfl (y_move (v := (Vp g.ib 0)) g30) ?_
  refine o_y rfl (y_nil rfl) ?_
  refine o_y rfl (y_fld fo141_0 rfl) ?_
  refine o_y rfl (y_load (v := (.slice (some ⟨g.sb, 0, none⟩) g.N g.N)) rfl (rd_sc sc139 (On.kp (hk35.get0 (hk22.get0 hb20)) id) rfl)) ?_
  refine o_y rfl (y_move (v := (Vi (((i23 : Nat) : Int)))) g31) ?_
  refine o_y rfl (y_idx so139 sz159 rfl (i := i23) rfl (by omega)) ?_
  refine o_y rfl (y_fld fo159_1 rfl) ?_
  refine o_y rfl (y_load (v := (Vi (x28.v))) rfl (rd_ef sc3 (EltsOn.kp (Own.all (hf27.kp hk35 id)) id) hx29 rfl)) ?_
  refine o_y rfl (y_move (v := (Vp g.ib 0)) g30) ?_
  refine o_y rfl (y_nil rfl) ?_
  refine o_y rfl (y_fld fo141_0 rfl) ?_
  refine o_y rfl (y_load (v := (.slice (some ⟨g.sb, 0, none⟩) g.N g.N)) rfl (rd_sc sc139 (On.kp (hk35.get0 (hk22.get0 hb20)) id) rfl)) ?_
  refine o_y rfl (y_move (v := (Vi (((i23 : Nat) : Int)))) g31) ?_
  refine o_y rfl (y_idx so139 sz159 rfl (i := i23) rfl (by omega)) ?_
  refine o_y rfl (y_fld fo159_2 rfl) ?_
  refine o_y rfl (y_load (v := (.bool (x28.full))) rfl (rd_ef sc4 (EltsOn.kp (Own.all (hf27.kp hk35 id)) id) hx29 rfl)) ?_
  refine o_y rfl (y_assign (v := (Vi (x28.v))) rfl) ?_
  refine o_y rfl (y_assign (v := (.bool (x28.full))) rfl) ?_
  refine o_done (hK32 _ _ (genC [(4, (Vi (x28.v))), (5, (.bool (x28.full)))] ⟨rfl, rfl, trivial⟩ ?_))
  clear hK32; rintro E ⟨g37, g38, -⟩
  refine ret (hret _ _ [(Vi (x28.v)), (.bool (x28.full))] ⟨g37, g38, trivial⟩ ?_)
  exact ⟨⟨_, by rw [hg1]; rfl, fun x hx => (hg2 x hx).1⟩, ka36⟩

theorem put_spec {g : IxG} {M : ByteArray → Option Int} {c : Nat} {w : World} (ok : IxOk g) (h : IxIs g M c w) (key : ByteArray) (v : Int) (hM : M key = none) (hc : (c : Int) < g.n) : Rets Tryd.prog 62 #[(.pointer (some ⟨g.ib, 0, none⟩)), (.string key), (.int .i64 v)] w fun u w' => u = .int .i64 0 ∧ IxIs g (fun k => if k = key then some v else M k) (c + 1) w' ∧ Kp (fun k => k = g.ib ∨ k = g.sb) w w' := by
  refine enter Tryd.func62 rfl Tryd.ntmps62 rfl fun Q hret hend E hE => ?_
  have g1 : E 0 = (Vp g.ib 0) := hE 0
  have g2 : E 1 = (.string key) := hE 1
  have g3 : E 2 = (Vi v) := hE 2
  clear hE
  obtain ⟨sl, h, hok, hct, hcnt, hcn⟩ := h
  have hb0 := h.blk; have ho0 := h.own; have hlen0 := h.len; have hib := h.ne; have hbig := ok.big; have hk0 := ok.k; have hn10 := ok.n1; have hn20 := ok.n2
  have hemp0 : ∃ e, e < g.N ∧ tab sl e = none := Ix.cnt_empty (by omega)
  refine seq fun K4 hK4 => ?_
  refine reg ?_
  refine s_y (y_assign (v := (Vi 0)) rfl) rfl ?_
  refine s_nil (hK4 _ _ (genC [(0, (Vp g.ib 0)), (1, (.string key)), (2, (Vi v))] ⟨g1, g2, g3, trivial⟩ ?_))
  clear hK4; rintro E ⟨g5, g6, g7, -⟩
  refine seq fun K8 hK8 => ?_
  refine seq fun K9 hK9 => ?_
  refine reg ?_
  refine s_y (y_move (v := (Vp g.ib 0)) g5) rfl ?_
  refine s_e (e_call ca87 (args := [(Vp g.ib 0)]) rfl (ixnone_spec ok ⟨hb0, ho0, by simp [hlen0]⟩)) rfl ?_
  rintro _ w10 ⟨rfl, hk11⟩
  have ka12 : Kp (fun k => k = g.ib ∨ k = g.sb) w w10 := (Kp.then0 (Kp.refl _ _) hk11)
  refine s_nil (hK9 _ _ (genC [(0, (Vp g.ib 0)), (1, (.string key)), (2, (Vi v)), (10, Vf)] ⟨g5, g6, g7, rfl, trivial⟩ ?_))
  clear hK9; rintro E ⟨g13, g14, g15, g16, -⟩
  refine cond_f g16 ?_
  refine skip (hK8 _ _ (genC [(0, (Vp g.ib 0)), (1, (.string key)), (2, (Vi v))] ⟨g13, g14, g15, trivial⟩ ?_))
  clear hK8; rintro E ⟨g17, g18, g19, -⟩
  refine seq fun K20 hK20 => ?_
  refine reg ?_
  refine s_y (y_move (v := (Vp g.ib 0)) g17) rfl ?_
  refine s_y (y_move (v := (.string key)) g18) rfl ?_
  have hf21 := (ho0.kp hk11 id)
  have hb22 := (hk11.get0 hb0)
  refine s_e (e_call ca88 (args := [(Vp g.ib 0), (.string key)]) rfl (find_spec ok (sl := sl) ⟨hb22, hf21, by simp [hlen0]⟩ key hemp0)) rfl ?_
  rintro _ w23 ⟨⟨i25, l26, rfl, hf27⟩, hk24⟩
  have ka28 := (Kp.then0 ka12 hk24)
  have hili25 := hf27.lt
  have hf29 := (hf21.kp hk24 id)
  obtain ⟨x30, hx31⟩ : ∃ x, sl[i25]? = some x := ⟨_, List.getElem?_eq_getElem (by omega)⟩
  obtain ⟨hg1, -⟩ := get_fact hx31 (hct.get hok hf27)
  have hxf : x30.full = false := by rw [← hg1, hM]; rfl
  refine s_y (y_move (v := (.tuple #[(Vi (((i25 : Nat) : Int))), (Vi l26)])) rfl) rfl ?_
  refine s_y (y_ext rfl (v := (Vi (((i25 : Nat) : Int)))) rfl) rfl ?_
  refine s_y (y_ext rfl (v := (Vi l26)) rfl) rfl ?_
  refine s_y (y_assign (v := (Vi (((i25 : Nat) : Int)))) rfl) rfl ?_
  refine s_y (y_assign (v := (Vi l26)) rfl) rfl ?_
  refine s_nil (hK20 _ _ (genC [(0, (Vp g.ib 0)), (1, (.string key)), (2, (Vi v)), (7, (Vi (((i25 : Nat) : Int))))] ⟨g17, g18, g19, rfl, trivial⟩ ?_))
  clear hK20; rintro E ⟨g32, g33, g34, g35, -⟩
  refine seq fun K36 hK36 => ?_
  refine block ?_
  refine seq fun K37 hK37 => ?_
  refine reg ?_
  refine s_y (y_move (v := (Vp g.ib 0)) g32) rfl ?_
  refine s_y (y_nil rfl) rfl ?_
  refine s_y (y_fld fo141_0 rfl) rfl ?_
  have hb38 := (hk24.get0 hb22)
  refine s_y (y_load (v := (.slice (some ⟨g.sb, 0, none⟩) g.N g.N)) rfl (rd_sc sc139 (On.now hb38) rfl)) rfl ?_
  refine s_y (y_move (v := (Vi (((i25 : Nat) : Int)))) g35) rfl ?_
  refine s_y (y_idx so139 sz159 rfl (i := i25) rfl (by omega)) rfl ?_
  refine s_y (y_fld fo159_2 rfl) rfl ?_
  refine s_y (y_load (v := (.bool (x30.full))) rfl (rd_ef sc4 (EltsOn.now (Own.all hf29)) hx31 rfl)) rfl ?_
  refine s_y (y_assign (v := (.bool (x30.full))) rfl) rfl ?_
  refine s_nil (hK37 _ _ (genC [(0, (Vp g.ib 0)), (1, (.string key)), (2, (Vi v)), (7, (Vi (((i25 : Nat) : Int)))), (17, (.bool (x30.full)))] ⟨g32, g33, g34, g35, rfl, trivial⟩ ?_))
  clear hK37; rintro E ⟨g39, g40, g41, g42, g43, -⟩
  refine cond_b g43 (fun c44 => ?_) (fun c44 => ?_)
  · rw [hxf] at c44; cases c44
  · refine seq fun K45 hK45 => ?_
    refine regD (fun _ => False) (.take 0 (.take 1 (.take 2 (.take 3 (.take 4 (.take 5 (.take 6 (.take 7 (.take 8 (.take 9 .done)))))))))) mixed (by kernel_rfl) fun w46 hh47 hk48 => ?_
    have ka49 := (Kp.then0 ka28 hk48)
    refine o_y rfl (y_move (v := (Vp g.ib 0)) g39) ?_
    refine o_y rfl (y_nil rfl) ?_
    refine o_y rfl (y_fld fo141_2 rfl) ?_
    refine o_y rfl (y_load (v := (Vi (((c : Nat) : Int)))) rfl (rd_sc sc3 (On.kp (hk48.get0 hb38) id) rfl)) ?_
    refine o_y rfl (y_move (v := (Vp g.ib 0)) g39) ?_
    refine o_y rfl (y_nil rfl) ?_
    refine o_y rfl (y_fld fo141_1 rfl) ?_
    refine o_y rfl (y_load (v := (Vi (g.n))) rfl (rd_sc sc3 (On.kp (hk48.get0 hb38) id) rfl)) ?_
    refine o_y rfl (y_geq rfl rfl) ?_
    refine o_y rfl (y_assign (v := (.bool (decide ((g.n : Int) ≤ ((c : Nat) : Int))))) rfl) ?_
    refine o_done (hK45 _ _ (genC [(0, (Vp g.ib 0)), (1, (.string key)), (2, (Vi v)), (7, (Vi (((i25 : Nat) : Int)))), (26, (.bool (decide ((g.n : Int) ≤ ((c : Nat) : Int)))))] ⟨g39, g40, g41, g42, rfl, trivial⟩ ?_))
    clear hK45; rintro E ⟨g50, g51, g52, g53, g54, -⟩
    refine cond_d g54 (fun c55 => ?_) (fun c55 => ?_)
    · omega
    · refine skip (hK36 _ _ (genC [(0, (Vp g.ib 0)), (1, (.string key)), (2, (Vi v)), (7, (Vi (((i25 : Nat) : Int))))] ⟨g50, g51, g52, g53, trivial⟩ ?_))
      clear hK36; rintro E ⟨g56, g57, g58, g59, -⟩
      refine seq fun K60 hK60 => ?_
      refine reg ?_
      refine s_y (y_move (v := (Vp g.ib 0)) g56) rfl ?_
      refine s_y (y_nil rfl) rfl ?_
      refine s_y (y_fld fo141_0 rfl) rfl ?_
      have hb61 := (hk48.get0 hb38)
      refine s_y (y_load (v := (.slice (some ⟨g.sb, 0, none⟩) g.N g.N)) rfl (rd_sc sc139 (On.now hb61) rfl)) rfl ?_
      refine s_y (y_move (v := (Vi (((i25 : Nat) : Int)))) g59) rfl ?_
      refine s_y (y_move (v := (.string key)) g57) rfl ?_
      refine s_y (y_move (v := (Vi v)) g58) rfl ?_
      refine s_y (y_build (vs := [(0, (.string key)), (1, (Vi v)), (2, Vt)]) (v := (.agg #[.string key, .int .i64 v, .bool true])) rfl (fun _ => by kernel_rfl)) rfl ?_
      refine s_y (y_idx so139 sz159 rfl (i := i25) rfl (by omega)) rfl ?_
      have hf62 := (hf29.kp hk48 id)
      refine s_e0 (e_storeEl (y := (⟨key, v, true⟩ : Slot)) rfl rfl sz159 hf62 (by omega) (fun _ => one_slot _)) ?_
      rintro _ w63 ⟨ho64, hk65⟩
      have ka66 := (Kp.trans ka49 hk65 (fun _ _ e => (fun e => (.inr e)) e))
      refine s_nil (hK60 _ _ (genC [(0, (Vp g.ib 0))] ⟨g56, trivial⟩ ?_))
      clear hK60; rintro E ⟨g67, -⟩
      refine seq fun K68 hK68 => ?_
      refine reg ?_
      refine s_y (y_move (v := (Vp g.ib 0)) g67) rfl ?_
      refine s_y (y_nil rfl) rfl ?_
      refine s_y (y_fld fo141_2 rfl) rfl ?_
      have hb69 := (hk65.get hb61 hib)
      refine s_y (y_load (v := (Vi (((c : Nat) : Int)))) rfl (rd_sc sc3 (On.now hb69) rfl)) rfl ?_
      refine s_y (y_add rfl rfl (c := ((c : Nat) : Int) + 1) (by omega) rfl) rfl ?_
      refine s_y (y_nil rfl) rfl ?_
      refine s_y (y_fld fo141_2 rfl) rfl ?_
      refine s_e0 (e_storeV (cs' := #[(.slice (some ⟨g.sb, 0, none⟩) g.N g.N), (Vi (g.n)), (Vi (((c : Nat) : Int) + 1))]) [(Vi (((c : Nat) : Int) + 1))] rfl (v := (Vi (((c : Nat) : Int) + 1))) rfl rfl sz3 hb69 rfl rfl rfl) ?_
      rintro _ w70 ⟨hb71, hk72⟩
      have ka73 := (Kp.trans ka66 hk72 (fun _ _ e => (fun e => (.inl e)) e))
      refine s_nil (hK68 _ _ (genC [] trivial ?_))
      clear hK68; rintro E -
      refine seq fun K74 hK74 => ?_
      refine reg ?_
      refine s_y (y_assign (v := (Vi 0)) rfl) rfl ?_
      refine s_nil (hK74 _ _ (genC [(6, (Vi 0))] ⟨rfl, trivial⟩ ?_))
      clear hK74; rintro E ⟨g75, -⟩
      refine ret (hret _ _ [(Vi 0)] ⟨g75, trivial⟩ ?_)
      have hf76 := (ho64.kp hk72 (Ne.symm hib))
      have hTn : tab sl i25 = none := by rw [hct.get hok hf27, hM]; rfl
      have hts := tab_set (sl := sl) (i := i25) (by omega) (⟨key, v, true⟩ : Slot)
      have hcu := Ix.cnt_upd (tab sl) i25 (some (key, v)) g.N hf27.lt; rw [hTn] at hcu; simp only [Option.isSome_none, Option.isSome_some, if_true, Bool.false_eq_true, if_false] at hcu
      exact ⟨rfl, ⟨(sl.set i25 (⟨key, v, true⟩ : Slot)), ⟨hb71, hf76, by simp [hlen0]⟩, hts ▸ hok.put hf27 hTn, hts ▸ hct.put hok hf27 hTn, by rw [hts]; simp only [if_true]; omega, by omega⟩, ka73⟩

structure NewIx (n : Int) (w w' : World) (g : IxG) : Prop where
  n : g.n = n
  ok : IxOk g
  is : IxIs g (fun _ => none) 0 w'
  ib : w.heap.size ≤ g.ib
  sb : w.heap.size ≤ g.sb
theorem ixnew_spec (n : Int) (w : World) (hn : -9223372036854775808 ≤ n ∧ n ≤ 9223372036854775807) : Rets Tryd.prog 44 #[(.int .i64 n)] w fun v w' => ((¬ (1 ≤ n ∧ n ≤ 65536) ∧ v = .tuple #[.pointer none, .int .i64 1]) ∨ ((1 ≤ n ∧ n ≤ 65536) ∧ ∃ g : IxG, v = .tuple #[.pointer (some ⟨g.ib, 0, none⟩), .int .i64 0] ∧ NewIx n w w' g)) ∧ K0 w w' := by
  refine enter Tryd.func44 rfl Tryd.ntmps44 rfl fun Q hret hend E hE => ?_
  have g1 : E 0 = (Vi n) := hE 0
  clear hE
  refine seq fun K2 hK2 => ?_
  refine reg ?_
  refine s_y (y_assign (v := (.pointer none)) rfl) rfl ?_
  refine s_y (y_assign (v := (Vi 0)) rfl) rfl ?_
  refine s_nil (hK2 _ _ (genC [(0, (Vi n))] ⟨g1, trivial⟩ ?_))
  clear hK2; rintro E ⟨g3, -⟩
  refine seq fun K4 hK4 => ?_
  refine seq fun K5 hK5 => ?_
  refine reg ?_
  refine s_y (y_move (v := (Vi n)) g3) rfl ?_
  refine s_y (y_lss rfl rfl) rfl ?_
  refine s_y (y_move (v := (.bool (decide ((n : Int) < 1)))) rfl) rfl ?_
  by_cases c6 : (n : Int) < 1
  · refine s_no (.no rfl (c := true) (congrArg Value.bool (decide_eq_true c6)) rfl) rfl ?_
    refine s_no (.no rfl (c := true) (congrArg Value.bool (decide_eq_true c6)) rfl) rfl ?_
    refine s_y (y_pick_t (congrArg Value.bool (decide_eq_true c6)) (v := Vt) rfl) rfl ?_
    refine s_nil (hK5 _ _ (genC [(0, (Vi n)), (10, Vt)] ⟨g3, rfl, trivial⟩ ?_))
    clear hK5; rintro E ⟨g7, g8, -⟩
    refine cond_t g8 ?_
    refine seq fun K9 hK9 => ?_
    refine reg ?_
    refine s_y (y_assign (v := (.pointer none)) rfl) rfl ?_
    refine s_y (y_assign (v := (Vi 1)) rfl) rfl ?_
    refine s_nil (hK9 _ _ (genC [(2, (.pointer none)), (3, (Vi 1))] ⟨rfl, rfl, trivial⟩ ?_))
    clear hK9; rintro E ⟨g10, g11, -⟩
    refine ret (hret _ _ [(.pointer none), (Vi 1)] ⟨g10, g11, trivial⟩ ?_)
    exact ⟨.inl ⟨by omega, rfl⟩, (Kp.refl _ _)⟩
  · refine s_gy (.yes rfl (congrArg Value.bool (decide_eq_false c6))) (y_move (v := (Vi n)) g3) rfl ?_
    refine s_gy (.yes rfl (congrArg Value.bool (decide_eq_false c6))) (y_gtr rfl rfl) rfl ?_
    refine s_y (y_pick_f (congrArg Value.bool (decide_eq_false c6)) (v := (.bool (decide ((65536 : Int) < n)))) rfl) rfl ?_
    refine s_nil (hK5 _ _ (genC [(0, (Vi n)), (10, (.bool (decide ((65536 : Int) < n))))] ⟨g3, rfl, trivial⟩ ?_))
    clear hK5; rintro E ⟨g12, g13, -⟩
    refine cond_d g13 (fun c14 => ?_) (fun c14 => ?_)
    · refine seq fun K15 hK15 => ?_
      refine reg ?_
      refine s_y (y_assign (v := (.pointer none)) rfl) rfl ?_
      refine s_y (y_assign (v := (Vi 1)) rfl) rfl ?_
      refine s_nil (hK15 _ _ (genC [(2, (.pointer none)), (3, (Vi 1))] ⟨rfl, rfl, trivial⟩ ?_))
      clear hK15; rintro E ⟨g16, g17, -⟩
      refine ret (hret _ _ [(.pointer none), (Vi 1)] ⟨g16, g17, trivial⟩ ?_)
      exact ⟨.inl ⟨by omega, rfl⟩, (Kp.refl _ _)⟩
    · refine skip (hK4 _ _ (genC [(0, (Vi n))] ⟨g12, trivial⟩ ?_))
      clear hK4; rintro E ⟨g18, -⟩
      refine seq fun K19 hK19 => ?_
      refine reg ?_
      refine s_y (y_assign (v := (Vi 8)) rfl) rfl ?_
      refine s_nil (hK19 _ _ (genC [(0, (Vi n)), (4, (Vi 8))] ⟨g18, rfl, trivial⟩ ?_))
      clear hK19; rintro E ⟨g20, g21, -⟩
      refine seq fun K22 hK22 => ?_
      refine block ?_
      refine loopG (X := Nat × Nat) (fun q_ E w_ => Has E [(0, (Vi n)), (4, (Vi (((q_.1 : Nat) : Int))))] ∧ Kp (fun _ => False) w w_ ∧ (q_.1 = 2 ^ q_.2) ∧ (8 ≤ q_.1) ∧ (q_.2 ≤ 18)) (fun q_ => (262144 - q_.1)) (8, 3) ⟨⟨g20, g21, trivial⟩, Kp.refl _ _, (show 8 = 2 ^ 3 from rfl), (show 8 ≤ 8 from (by omega)), (show 3 ≤ 18 from (by omega))⟩ ?_
      rintro ⟨N, k⟩ E w25 ⟨⟨g23, g24, -⟩, hk26, hi28, hi29, hi30⟩ K27 hK27
      replace g23 : E 0 = (Vi n) := g23
      replace g24 : E 4 = (Vi (((N : Nat) : Int))) := g24
      replace hi28 : N = 2 ^ k := hi28
      replace hi29 : 8 ≤ N := hi29
      replace hi30 : k ≤ 18 := hi30
      have ka31 : Kp (fun _ => False) w w25 := (Kp.then0 (Kp.refl _ _) hk26)
      refine seq fun K32 hK32 => ?_
      refine seq fun K33 hK33 => ?_
      refine reg ?_
      refine s_y (y_move (v := (Vi (((N : Nat) : Int)))) g24) rfl ?_
      refine s_y (y_move (v := (Vi n)) g23) rfl ?_
      refine s_y (y_mul rfl rfl (c := 2 * n) (by omega) rfl) rfl ?_
      refine s_y (y_lss rfl rfl) rfl ?_
      refine s_nil (hK33 _ _ (genC [(0, (Vi n)), (4, (Vi (((N : Nat) : Int)))), (14, (.bool (decide ((((N : Nat) : Int) : Int) < 2 * n))))] ⟨g23, g24, rfl, trivial⟩ ?_))
      clear hK33; rintro E ⟨g34, g35, g36, -⟩
      refine cond_d g36 (fun c37 => ?_) (fun c37 => ?_)
      · refine skip (hK32 _ _ (genC [(0, (Vi n)), (4, (Vi (((N : Nat) : Int))))] ⟨g34, g35, trivial⟩ ?_))
        clear hK32; rintro E ⟨g38, g39, -⟩
        refine block ?_
        refine reg ?_
        refine s_y (y_move (v := (Vi (((N : Nat) : Int)))) g39) rfl ?_
        refine s_y (y_mul rfl rfl (c := ((N : Nat) : Int) * 2) (by omega) rfl) rfl ?_
        refine s_y (y_assign (v := (Vi (((N : Nat) : Int) * 2))) rfl) rfl ?_
        have kc40 : Kp (fun _ => False) w w25 := (Kp.then0 (Kp.refl _ _) hk26)
        exact s_nil (hK27 ((N * 2), (k + 1)) _ _ ⟨⟨g38, rfl, trivial⟩, kc40, (show (N * 2) = 2 ^ (k + 1) from (by rw [hi28, Nat.pow_succ])), (show 8 ≤ (N * 2) from (by omega)), (show (k + 1) ≤ 18 from (by
            rcases Nat.lt_or_ge k 18 with h | h
            · omega
            have := Nat.pow_le_pow_right (show 0 < 2 by omega) h
            omega))⟩ (by show (262144 - (N * 2)) < (262144 - N); omega))
      · refine exit (hK22 _ _ (genC [(0, (Vi n)), (4, (Vi (((N : Nat) : Int))))] ⟨g34, g35, trivial⟩ ?_))
        clear hK22; rintro E ⟨g41, g42, -⟩
        refine seq fun K43 hK43 => ?_
        refine reg ?_
        refine s_y (y_move (v := (Vi (((N : Nat) : Int)))) g42) rfl ?_
        have hNb : N ≤ 262144 := by rw [hi28]; exact nl (Nat.pow_le_pow_right (by omega) hi30) (by decide)
        refine s_e (e_makeSlice (f := Slot.cs) (n := N) (x0 := (⟨.empty, 0, false⟩ : Slot)) so139 ti159 rfl (fun _ => rfl) rfl rfl (by omega) (by simp only [maxLen]; omega)) rfl ?_
        rintro _ w44 ⟨rfl, ho45, hk46⟩
        have ka47 := (Kp.then0 ka31 hk46)
        refine s_y (y_move (v := (Vi n)) g41) rfl ?_
        refine s_y (y_build (vs := [(0, (.slice (some ⟨w25.heap.size, 0, none⟩) N N)), (1, (Vi n))]) (v := (.agg #[.slice (some ⟨w25.heap.size, 0, none⟩) N N, .int .i64 n, .int .i64 0])) rfl (fun _ => by kernel_rfl)) rfl ?_
        refine s_e (e_box (v := (.agg #[.slice (some ⟨w25.heap.size, 0, none⟩) N N, .int .i64 n, .int .i64 0])) rfl) rfl ?_
        rintro _ w48 ⟨rfl, hb49, hk50⟩
        have ka51 := (Kp.then0 ka47 hk50)
        refine s_y (y_assign (v := (Vp w44.heap.size 0)) rfl) rfl ?_
        refine s_y (y_assign (v := (Vi 0)) rfl) rfl ?_
        refine s_nil (hK43 _ _ (genC [(2, (Vp w44.heap.size 0)), (3, (Vi 0))] ⟨rfl, rfl, trivial⟩ ?_))
        clear hK43; rintro E ⟨g52, g53, -⟩
        refine ret (hret _ _ [(Vp w44.heap.size 0), (Vi 0)] ⟨g52, g53, trivial⟩ ?_)
        have hf54 := (ho45.kp hk50 id)
        have ht9 := tab_new N (⟨.empty, 0, false⟩ : Slot) rfl
        refine ⟨.inr ⟨by omega, ⟨w44.heap.size, w25.heap.size, N, k, n⟩, rfl, rfl, ⟨hi28, hi30, by show 1 ≤ n; omega, by show 2 * n ≤ N; omega⟩, ⟨_, ⟨hb49, hf54, List.length_replicate⟩, ?_, ?_, ?_, by show (0 : Int) ≤ n; omega⟩, (nl (nl hk26.size hk46.size) (Nat.le_refl _)), (nl hk26.size (Nat.le_refl _))⟩, ka51⟩
        · rw [ht9]; exact ⟨fun k => hN_lt (by show 1 ≤ N; omega) k, fun _ _ _ _ _ _ _ e _ => by simp at e, fun _ _ _ _ e => by simp at e⟩
        · rw [ht9]; intro k v; exact ⟨fun e => by simp at e, fun ⟨_, _, e⟩ => by simp at e⟩
        · rw [ht9]; exact Ix.cnt_none _

theorem del_spec {g : IxG} {M : ByteArray → Option Int} {c : Nat} {w : World} (ok : IxOk g) (h : IxIs g M c w) (key : ByteArray) (v : Int) (hM : M key = some v) : Rets Tryd.prog 65 #[(.pointer (some ⟨g.ib, 0, none⟩)), (.string key)] w fun u w' => u = .bool true ∧ IxIs g (fun k => if k = key then none else M k) (c - 1) w' ∧ Kp (fun k => k = g.ib ∨ k = g.sb) w w' := by
  refine enter Tryd.func65 rfl Tryd.ntmps65 rfl fun Q hret hend E hE => ?_
  have g1 : E 0 = (Vp g.ib 0) := hE 0
  have g2 : E 1 = (.string key) := hE 1
  clear hE
  obtain ⟨sl, h, hok, hct, hcnt, hcn⟩ := h
  have hb0 := h.blk; have ho0 := h.own; have hlen0 := h.len; have hib := h.ne; have hbig := ok.big; have hk0 := ok.k; have hn10 := ok.n1; have hn20 := ok.n2
  have hemp0 : ∃ e, e < g.N ∧ tab sl e = none := Ix.cnt_empty (by omega)
  refine seq fun K3 hK3 => ?_
  refine reg ?_
  refine s_y (y_assign (v := Vf) rfl) rfl ?_
  refine s_nil (hK3 _ _ (genC [(0, (Vp g.ib 0)), (1, (.string key))] ⟨g1, g2, trivial⟩ ?_))
  clear hK3; rintro E ⟨g4, g5, -⟩
  refine seq fun K6 hK6 => ?_
  refine seq fun K7 hK7 => ?_
  refine reg ?_
  refine s_y (y_move (v := (Vp g.ib 0)) g4) rfl ?_
  refine s_e (e_call ca87 (args := [(Vp g.ib 0)]) rfl (ixnone_spec ok ⟨hb0, ho0, by simp [hlen0]⟩)) rfl ?_
  rintro _ w8 ⟨rfl, hk9⟩
  have ka10 : Kp (fun k => k = g.ib ∨ k = g.sb) w w8 := (Kp.then0 (Kp.refl _ _) hk9)
  refine s_nil (hK7 _ _ (genC [(0, (Vp g.ib 0)), (1, (.string key)), (11, Vf)] ⟨g4, g5, rfl, trivial⟩ ?_))
  clear hK7; rintro E ⟨g11, g12, g13, -⟩
  refine cond_f g13 ?_
  refine skip (hK6 _ _ (genC [(0, (Vp g.ib 0)), (1, (.string key))] ⟨g11, g12, trivial⟩ ?_))
  clear hK6; rintro E ⟨g14, g15, -⟩
  refine seq fun K16 hK16 => ?_
  refine reg ?_
  refine s_y (y_move (v := (Vp g.ib 0)) g14) rfl ?_
  refine s_y (y_move (v := (.string key)) g15) rfl ?_
  have hf17 := (ho0.kp hk9 id)
  have hb18 := (hk9.get0 hb0)
  refine s_e (e_call ca88 (args := [(Vp g.ib 0), (.string key)]) rfl (find_spec ok (sl := sl) ⟨hb18, hf17, by simp [hlen0]⟩ key hemp0)) rfl ?_
  rintro _ w19 ⟨⟨i21, l22, rfl, hf23⟩, hk20⟩
  have ka24 := (Kp.then0 ka10 hk20)
  have hili21 := hf23.lt
  have hf25 := (hf17.kp hk20 id)
  obtain ⟨x26, hx27⟩ : ∃ x, sl[i21]? = some x := ⟨_, List.getElem?_eq_getElem (by first | omega | (rw [List.length_set]; omega))⟩
  obtain ⟨hg1, hg2⟩ := get_fact hx27 (hct.get hok hf23)
  have hxf : x26.full = true := by rw [← hg1, hM]; rfl
  have hTi : tab sl i21 = some (key, v) := by rw [hct.get hok hf23, hM]; rfl
  obtain ⟨e, heN, hie, hTe, hfull⟩ := Ix.first_empty (T := tab sl) hf23.lt (by rw [hTi]; simp) hemp0
  have hts := tab_set (sl := sl) (i := i21) (by omega) (⟨.empty, 0, false⟩ : Slot); simp only [Bool.false_eq_true, if_false] at hts
  have hcu := Ix.cnt_upd (tab sl) i21 none g.N hf23.lt; rw [hTi] at hcu; simp only [Option.isSome_none, Option.isSome_some, if_true, Bool.false_eq_true, if_false] at hcu
  have hdel := Ix.Del.start hok hf23.lt heN hie hTe hfull; have hctd := hct.del hok hf23.lt hTi
  rw [← hts] at hdel hctd hcu
  refine s_y (y_move (v := (.tuple #[(Vi (((i21 : Nat) : Int))), (Vi l22)])) rfl) rfl ?_
  refine s_y (y_ext rfl (v := (Vi (((i21 : Nat) : Int)))) rfl) rfl ?_
  refine s_y (y_ext rfl (v := (Vi l22)) rfl) rfl ?_
  refine s_y (y_assign (v := (Vi (((i21 : Nat) : Int)))) rfl) rfl ?_
  refine s_y (y_assign (v := (Vi l22)) rfl) rfl ?_
  refine s_nil (hK16 _ _ (genC [(0, (Vp g.ib 0)), (5, (Vi (((i21 : Nat) : Int))))] ⟨g14, rfl, trivial⟩ ?_))
  clear hK16; rintro E ⟨g28, g29, -⟩
  refine seq fun K30 hK30 => ?_
  refine seq fun K31 hK31 => ?_
  refine reg ?_
  refine s_y (y_move (v := (Vp g.ib 0)) g28) rfl ?_
  refine s_y (y_nil rfl) rfl ?_
  refine s_y (y_fld fo141_0 rfl) rfl ?_
  have hb32 := (hk20.get0 hb18)
  refine s_y (y_load (v := (.slice (some ⟨g.sb, 0, none⟩) g.N g.N)) rfl (rd_sc sc139 (On.now hb32) rfl)) rfl ?_
  refine s_y (y_move (v := (Vi (((i21 : Nat) : Int)))) g29) rfl ?_
  refine s_y (y_idx so139 sz159 rfl (i := i21) rfl (by first | omega | (rw [List.length_set]; omega))) rfl ?_
  refine s_y (y_fld fo159_2 rfl) rfl ?_
  refine s_y (y_load (v := (.bool (x26.full))) rfl (rd_ef sc4 (EltsOn.now (Own.all hf25)) hx27 rfl)) rfl ?_
  refine s_y (y_not rfl) rfl ?_
  refine s_nil (hK31 _ _ (genC [(0, (Vp g.ib 0)), (5, (Vi (((i21 : Nat) : Int)))), (26, (.bool (!(x26.full))))] ⟨g28, g29, rfl, trivial⟩ ?_))
  clear hK31; rintro E ⟨g33, g34, g35, -⟩
  refine cond_b g35 (fun c36 => ?_) (fun c36 => ?_)
  · rw [hxf] at c36; cases c36
  · refine skip (hK30 _ _ (genC [(0, (Vp g.ib 0)), (5, (Vi (((i21 : Nat) : Int))))] ⟨g33, g34, trivial⟩ ?_))
    clear hK30; rintro E ⟨g37, g38, -⟩
    refine seq fun K39 hK39 => ?_
    refine reg ?_
    refine s_y (y_move (v := (Vp g.ib 0)) g37) rfl ?_
    refine s_y (y_nil rfl) rfl ?_
    refine s_y (y_fld fo141_0 rfl) rfl ?_
    refine s_y (y_load (v := (.slice (some ⟨g.sb, 0, none⟩) g.N g.N)) rfl (rd_sc sc139 (On.now hb32) rfl)) rfl ?_
    refine s_y (y_move (v := (Vi (((i21 : Nat) : Int)))) g38) rfl ?_
    refine s_y (y_build (vs := []) (v := (.agg #[.string .empty, .int .i64 0, .bool false])) rfl (fun _ => by kernel_rfl)) rfl ?_
    refine s_y (y_idx so139 sz159 rfl (i := i21) rfl (by first | omega | (rw [List.length_set]; omega))) rfl ?_
    refine s_e0 (e_storeEl (y := (⟨.empty, 0, false⟩ : Slot)) rfl rfl sz159 hf25 (by first | omega | (rw [List.length_set]; omega)) (fun _ => one_slot _)) ?_
    rintro _ w40 ⟨ho41, hk42⟩
    have ka43 := (Kp.trans ka24 hk42 (fun _ _ e => (fun e => (.inr e)) e))
    refine s_nil (hK39 _ _ (genC [(0, (Vp g.ib 0)), (5, (Vi (((i21 : Nat) : Int))))] ⟨g37, g38, trivial⟩ ?_))
    clear hK39; rintro E ⟨g44, g45, -⟩
    refine seq fun K46 hK46 => ?_
    refine reg ?_
    refine s_y (y_move (v := (Vp g.ib 0)) g44) rfl ?_
    refine s_y (y_nil rfl) rfl ?_
    refine s_y (y_fld fo141_2 rfl) rfl ?_
    have hb47 := (hk42.get hb32 hib)
    refine s_y (y_load (v := (Vi (((c : Nat) : Int)))) rfl (rd_sc sc3 (On.now hb47) rfl)) rfl ?_
    refine s_y (y_sub rfl rfl (c := ((c : Nat) : Int) - 1) (by omega) rfl) rfl ?_
    refine s_y (y_nil rfl) rfl ?_
    refine s_y (y_fld fo141_2 rfl) rfl ?_
    refine s_e0 (e_storeV (cs' := #[(.slice (some ⟨g.sb, 0, none⟩) g.N g.N), (Vi (g.n)), (Vi (((c : Nat) : Int) - 1))]) [(Vi (((c : Nat) : Int) - 1))] rfl (v := (Vi (((c : Nat) : Int) - 1))) rfl rfl sz3 hb47 rfl rfl rfl) ?_
    rintro _ w48 ⟨hb49, hk50⟩
    have ka51 := (Kp.trans ka43 hk50 (fun _ _ e => (fun e => (.inl e)) e))
    refine s_nil (hK46 _ _ (genC [(0, (Vp g.ib 0)), (5, (Vi (((i21 : Nat) : Int))))] ⟨g44, g45, trivial⟩ ?_))
    clear hK46; rintro E ⟨g52, g53, -⟩
    refine seq fun K54 hK54 => ?_
    refine seq fun K55 hK55 => ?_
    refine reg ?_
    refine s_y (y_move (v := (Vi (((i21 : Nat) : Int)))) g53) rfl ?_
    refine s_y (y_add rfl rfl (c := ((i21 : Nat) : Int) + 1) (by omega) rfl) rfl ?_
    refine s_y (y_move (v := (Vp g.ib 0)) g52) rfl ?_
    refine s_y (y_nil rfl) rfl ?_
    refine s_y (y_fld fo141_0 rfl) rfl ?_
    refine s_y (y_load (v := (.slice (some ⟨g.sb, 0, none⟩) g.N g.N)) rfl (rd_sc sc139 (On.now hb49) rfl)) rfl ?_
    refine s_y (y_lenS so139 rfl) rfl ?_
    refine s_y (y_sub rfl rfl (c := ((g.N : Nat) : Int) - 1) (by omega) rfl) rfl ?_
    refine s_y (y_mask (a := i21 + 1) (r := (Ix.nxt g.N i21)) rfl rfl ok.N (by omega) (by omega) (nxt_mod (by omega))) rfl ?_
    refine s_y (y_assign (v := (Vi ((((Ix.nxt g.N i21) : Nat) : Int)))) rfl) rfl ?_
    refine s_nil (hK55 _ _ (genC [(0, (Vp g.ib 0)), (5, (Vi ((((Ix.nxt g.N i21) : Nat) : Int))))] ⟨g52, rfl, trivial⟩ ?_))
    clear hK55; rintro E ⟨g56, g57, -⟩
    refine block ?_
    have hf58 := (ho41.kp hk50 (Ne.symm hib))
    refine loopG (X := Nat × List Slot) (fun q_ E w_ => Has E [(0, (Vp g.ib 0)), (5, (Vi (((q_.1 : Nat) : Int))))] ∧ Kp (· = g.sb) w48 w_ ∧ (Own Slot.cs 3 w_ g.sb 159 q_.2) ∧ (q_.2.length = g.N) ∧ (Ix.Del g.N (hN g.N) (tab q_.2) i21 q_.1 e) ∧ (Ix.Cont g.N (tab q_.2) (fun k => if k = key then none else M k)) ∧ (Ix.cnt (tab q_.2) g.N = c - 1)) (fun q_ => Ix.dist g.N q_.1 e) ((Ix.nxt g.N i21), (sl.set i21 (⟨.empty, 0, false⟩ : Slot))) ⟨⟨g56, g57, trivial⟩, Kp.refl _ _, (show Own Slot.cs 3 w48 g.sb 159 (sl.set i21 (⟨.empty, 0, false⟩ : Slot)) from hf58), (show (sl.set i21 (⟨.empty, 0, false⟩ : Slot)).length = g.N from (by simp [hlen0])), (show Ix.Del g.N (hN g.N) (tab (sl.set i21 (⟨.empty, 0, false⟩ : Slot))) i21 (Ix.nxt g.N i21) e from hdel), (show Ix.Cont g.N (tab (sl.set i21 (⟨.empty, 0, false⟩ : Slot))) (fun k => if k = key then none else M k) from hctd), (show Ix.cnt (tab (sl.set i21 (⟨.empty, 0, false⟩ : Slot))) g.N = c - 1 from (by omega))⟩ ?_
    rintro ⟨j, sl2⟩ E w61 ⟨⟨g59, g60, -⟩, hk62, hi64, hi65, hi66, hi67, hi68⟩ K63 hK63
    replace g59 : E 0 = (Vp g.ib 0) := g59
    replace g60 : E 5 = (Vi (((j : Nat) : Int))) := g60
    replace hi64 : Own Slot.cs 3 w61 g.sb 159 sl2 := hi64
    replace hi65 : sl2.length = g.N := hi65
    replace hi66 : Ix.Del g.N (hN g.N) (tab sl2) i21 j e := hi66
    replace hi67 : Ix.Cont g.N (tab sl2) (fun k => if k = key then none else M k) := hi67
    replace hi68 : Ix.cnt (tab sl2) g.N = c - 1 := hi68
    have ka69 := (Kp.trans ka51 hk62 (fun _ _ e => (fun e => (.inr e)) e))
    have hjl0 := hi66.jl
    refine seq fun K70 hK70 => ?_
    refine seq fun K71 hK71 => ?_
    refine reg ?_
    refine s_y (y_move (v := (Vp g.ib 0)) g59) rfl ?_
    refine s_y (y_nil rfl) rfl ?_
    refine s_y (y_fld fo141_0 rfl) rfl ?_
    have hb72 := (hk62.get hb49 hib)
    refine s_y (y_load (v := (.slice (some ⟨g.sb, 0, none⟩) g.N g.N)) rfl (rd_sc sc139 (On.now hb72) rfl)) rfl ?_
    refine s_y (y_move (v := (Vi (((j : Nat) : Int)))) g60) rfl ?_
    refine s_y (y_idx so139 sz159 rfl (i := j) rfl (by first | omega | (rw [List.length_set]; omega))) rfl ?_
    refine s_y (y_fld fo159_2 rfl) rfl ?_
    obtain ⟨x73, hx74⟩ : ∃ x, sl2[j]? = some x := ⟨_, List.getElem?_eq_getElem (by first | omega | (rw [List.length_set]; omega))⟩
    refine s_y (y_load (v := (.bool (x73.full))) rfl (rd_ef sc4 (EltsOn.now (Own.all hi64)) hx74 rfl)) rfl ?_
    refine s_nil (hK71 _ _ (genC [(0, (Vp g.ib 0)), (5, (Vi (((j : Nat) : Int)))), (57, (.bool (x73.full)))] ⟨g59, g60, rfl, trivial⟩ ?_))
    clear hK71; rintro E ⟨g75, g76, g77, -⟩
    refine cond_b g77 (fun c78 => ?_) (fun c78 => ?_)
    · refine skip (hK70 _ _ (genC [(0, (Vp g.ib 0)), (5, (Vi (((j : Nat) : Int))))] ⟨g75, g76, trivial⟩ ?_))
      clear hK70; rintro E ⟨g79, g80, -⟩
      refine seq fun K81 hK81 => ?_
      refine block ?_
      refine seq fun K82 hK82 => ?_
      refine reg ?_
      refine s_y (y_move (v := (Vp g.ib 0)) g79) rfl ?_
      refine s_y (y_nil rfl) rfl ?_
      refine s_y (y_fld fo141_0 rfl) rfl ?_
      refine s_y (y_load (v := (.slice (some ⟨g.sb, 0, none⟩) g.N g.N)) rfl (rd_sc sc139 (On.now hb72) rfl)) rfl ?_
      refine s_y (y_move (v := (Vi (((j : Nat) : Int)))) g80) rfl ?_
      refine s_y (y_idx so139 sz159 rfl (i := j) rfl (by first | omega | (rw [List.length_set]; omega))) rfl ?_
      refine s_y (y_load (v := (.agg #[.string x73.key, .int .i64 (x73.v), .bool (x73.full)])) rfl (rd_el ag159 (EltsOn.now (Own.all hi64)) hx74 (vs := [(.string x73.key), (Vi (x73.v)), (.bool (x73.full))]) rfl)) rfl ?_
      refine s_e (e_alloc ze159) rfl ?_
      rintro _ w83 ⟨rfl, hb84, hk85⟩
      have ka86 := (Kp.then0 ka69 hk85)
      refine s_e0 (e_storeV (cs' := #[(.string x73.key), (Vi (x73.v)), (.bool (x73.full))]) [(.string x73.key), (Vi (x73.v)), (.bool (x73.full))] rfl (v := (.agg #[.string x73.key, .int .i64 (x73.v), .bool (x73.full)])) rfl rfl sz159 hb84 rfl rfl rfl) ?_
      rintro _ w87 ⟨hb88, hk89⟩
      have hz91 := (nl (nl (nl (nl hk9.size hk20.size) hk42.size) hk50.size) hk62.size)
      have ka90 := (Kp.fresh ka86 hk89 fun _ e => nl (nl hz91 (Nat.le_refl _)) (Nat.le_of_eq e.symm))
      refine s_nil (hK82 _ _ (genC [(0, (Vp g.ib 0)), (5, (Vi (((j : Nat) : Int)))), (7, (Vp w61.heap.size 0))] ⟨g79, g80, rfl, trivial⟩ ?_))
      clear hK82; rintro E ⟨g92, g93, g94, -⟩
      refine seq fun K95 hK95 => ?_
      refine reg ?_
      refine s_y (y_move (v := (Vp g.ib 0)) g92) rfl ?_
      refine s_y (y_nil rfl) rfl ?_
      refine s_y (y_fld fo141_0 rfl) rfl ?_
      have hb96 := (hk89.get (hk85.get0 hb72) (Nat.ne_of_lt (nt (lt_of_get hb72) (Nat.le_refl _))))
      refine s_y (y_load (v := (.slice (some ⟨g.sb, 0, none⟩) g.N g.N)) rfl (rd_sc sc139 (On.now hb96) rfl)) rfl ?_
      refine s_y (y_move (v := (Vi (((j : Nat) : Int)))) g93) rfl ?_
      refine s_y (y_build (vs := []) (v := (.agg #[.string .empty, .int .i64 0, .bool false])) rfl (fun _ => by kernel_rfl)) rfl ?_
      refine s_y (y_idx so139 sz159 rfl (i := j) rfl (by first | omega | (rw [List.length_set]; omega))) rfl ?_
      have hf97 := ((hi64.kp hk85 id).kp hk89 (Nat.ne_of_lt (nt (hi64.lt) (Nat.le_refl _))))
      refine s_e0 (e_storeEl (y := (⟨.empty, 0, false⟩ : Slot)) rfl rfl sz159 hf97 (by first | omega | (rw [List.length_set]; omega)) (fun _ => one_slot _)) ?_
      rintro _ w98 ⟨ho99, hk100⟩
      have ka101 := (Kp.trans ka90 hk100 (fun _ _ e => (fun e => (.inr e)) e))
      refine s_nil (hK95 _ _ (genC [(0, (Vp g.ib 0)), (5, (Vi (((j : Nat) : Int)))), (7, (Vp w61.heap.size 0))] ⟨g92, g93, g94, trivial⟩ ?_))
      clear hK95; rintro E ⟨g102, g103, g104, -⟩
      refine seq fun K105 hK105 => ?_
      refine reg ?_
      refine s_y (y_move (v := (Vp g.ib 0)) g102) rfl ?_
      refine s_y (y_fld fo159_0 g104) rfl ?_
      have hb106 := (hk100.get hb88 (Nat.ne_of_gt (nt (hi64.lt) (Nat.le_refl _))))
      refine s_y (y_load (v := (.string x73.key)) rfl (rd_sc sc9 (On.now hb106) rfl)) rfl ?_
      have hTj : tab sl2 j = some (x73.key, x73.v) := tab_full hx74 c78
      have hts2 := tab_set (sl := sl2) (i := j) (by omega) (⟨.empty, 0, false⟩ : Slot); simp only [Bool.false_eq_true, if_false] at hts2
      have hemp2 : ∃ e, e < g.N ∧ tab (sl2.set j (⟨.empty, 0, false⟩ : Slot)) e = none := ⟨j, hi66.jl, by rw [hts2, Ix.upd_same]⟩
      have hb107 := (hk100.get hb96 hib)
      refine s_e (e_call ca88 (args := [(Vp g.ib 0), (.string x73.key)]) rfl (find_spec ok (sl := (sl2.set j (⟨.empty, 0, false⟩ : Slot))) ⟨hb107, ho99, by simp [hi65]⟩ x73.key hemp2)) rfl ?_
      rintro _ w108 ⟨⟨p110, l111, rfl, hf112⟩, hk109⟩
      have ka113 := (Kp.then0 ka101 hk109)
      rw [hts2] at hf112
      have hstep := Ix.Del.step hi66 hTj hf112; have hpl9 := hf112.lt
      have hts3 := tab_set (sl := sl2.set j (⟨.empty, 0, false⟩ : Slot)) (i := p110) (by rw [List.length_set]; omega) (⟨x73.key, x73.v, true⟩ : Slot); simp only [if_true] at hts3; rw [hts2] at hts3
      have hmu9 : Ix.dist g.N (Ix.nxt g.N j) e < Ix.dist g.N j e := Ix.dist_nxt hi66.jl hi66.el (fun e9 => by have h9 := hi66.empty; rw [← e9, hTj] at h9; cases h9)
      have hxe9 : (⟨x73.key, x73.v, true⟩ : Slot) = x73 := by cases x73; simp_all
      rw [hxe9] at hts3
      refine s_y (y_move (v := (.tuple #[(Vi (((p110 : Nat) : Int))), (Vi l111)])) rfl) rfl ?_
      refine s_y (y_ext rfl (v := (Vi (((p110 : Nat) : Int)))) rfl) rfl ?_
      refine s_y (y_ext rfl (v := (Vi l111)) rfl) rfl ?_
      refine s_y (y_assign (v := (Vi (((p110 : Nat) : Int)))) rfl) rfl ?_
      refine s_y (y_assign (v := (Vi l111)) rfl) rfl ?_
      refine s_nil (hK105 _ _ (genC [(0, (Vp g.ib 0)), (5, (Vi (((j : Nat) : Int)))), (7, (Vp w61.heap.size 0)), (8, (Vi (((p110 : Nat) : Int))))] ⟨g102, g103, g104, rfl, trivial⟩ ?_))
      clear hK105; rintro E ⟨g114, g115, g116, g117, -⟩
      refine regD (· = g.sb) (.take 0 (.take 1 (.take 2 (.take 3 (.take 4 (.take 5 (.take 6 (.one 7 .done)))))))) mixed (by kernel_rfl) fun w118 hh119 hk120 => ?_
      have ka121 := (Kp.then0 ka113 hk120)
      refine o_y rfl (y_move (v := (Vp g.ib 0)) g114) ?_
      refine o_y rfl (y_nil rfl) ?_
      refine o_y rfl (y_fld fo141_0 rfl) ?_
      refine o_y rfl (y_load (v := (.slice (some ⟨g.sb, 0, none⟩) g.N g.N)) rfl (rd_sc sc139 (On.kp (hk120.get0 (hk109.get0 hb107)) hib) rfl)) ?_
      refine o_y rfl (y_move (v := (Vi (((p110 : Nat) : Int)))) g117) ?_
      refine o_y rfl (y_load (v := (.agg #[.string x73.key, .int .i64 (x73.v), .bool (x73.full)])) g116 (rd_agg (vs := [(.string x73.key), (Vi (x73.v)), (.bool (x73.full))]) ag159 (On.kp (hk120.get0 (hk109.get0 hb106)) (Nat.ne_of_gt (nt (hi64.lt) (Nat.le_refl _)))) (by kernel_rfl) rfl)) ?_
      refine o_y rfl (y_idx so139 sz159 rfl (i := p110) rfl (by first | omega | (rw [List.length_set]; omega))) ?_
      refine o_one ?_
      have hf122 := ((ho99.kp hk109 id).kp hk120 id)
      refine c_e0 rfl (e_storeEl (y := x73) rfl rfl sz159 hf122 (by first | omega | (rw [List.length_set]; omega)) (fun _ => one_slot _)) ?_
      rintro _ w123 ⟨ho124, hk125⟩
      have ka126 := (Kp.trans ka121 hk125 (fun _ _ e => (fun e => (.inr e)) e))
      have ks127 : Kp (· = g.sb) w118 w123 := (Kp.trans (Kp.refl _ _) hk125 (fun _ _ e => e))
      refine ⟨ks127, ?_⟩
      refine o_done (hK81 _ _ (genC [(0, (Vp g.ib 0)), (5, (Vi (((j : Nat) : Int))))] ⟨g114, g115, trivial⟩ ?_))
      clear hK81; rintro E ⟨g128, g129, -⟩
      refine reg ?_
      refine s_y (y_move (v := (Vi (((j : Nat) : Int)))) g129) rfl ?_
      refine s_y (y_add rfl rfl (c := ((j : Nat) : Int) + 1) (by omega) rfl) rfl ?_
      refine s_y (y_move (v := (Vp g.ib 0)) g128) rfl ?_
      refine s_y (y_nil rfl) rfl ?_
      refine s_y (y_fld fo141_0 rfl) rfl ?_
      have hb130 := (hk125.get (hk120.get0 (hk109.get0 hb107)) hib)
      refine s_y (y_load (v := (.slice (some ⟨g.sb, 0, none⟩) g.N g.N)) rfl (rd_sc sc139 (On.now hb130) rfl)) rfl ?_
      refine s_y (y_lenS so139 rfl) rfl ?_
      refine s_y (y_sub rfl rfl (c := ((g.N : Nat) : Int) - 1) (by omega) rfl) rfl ?_
      refine s_y (y_mask (a := j + 1) (r := (Ix.nxt g.N j)) rfl rfl ok.N (by omega) (by omega) (nxt_mod (by omega))) rfl ?_
      refine s_y (y_assign (v := (Vi ((((Ix.nxt g.N j) : Nat) : Int)))) rfl) rfl ?_
      have kc131 : Kp (· = g.sb) w48 w61 := (Kp.trans (Kp.refl _ _) hk62 (fun _ _ e => e))
      have kc132 : Kp (· = g.sb) w48 w83 := (Kp.then0 kc131 hk85)
      have kc133 : Kp (· = g.sb) w48 w87 := (Kp.fresh kc132 hk89 fun _ e => nl (nl hk62.size (Nat.le_refl _)) (Nat.le_of_eq e.symm))
      have kc134 : Kp (· = g.sb) w48 w98 := (Kp.trans kc133 hk100 (fun _ _ e => e))
      have kc135 : Kp (· = g.sb) w48 w108 := (Kp.then0 kc134 hk109)
      have kc136 : Kp (· = g.sb) w48 w118 := (Kp.then0 kc135 hk120)
      have kc137 : Kp (· = g.sb) w48 w123 := (Kp.trans kc136 hk125 (fun _ _ e => e))
      exact s_nil (hK63 ((Ix.nxt g.N j), ((sl2.set j (⟨.empty, 0, false⟩ : Slot)).set p110 x73)) _ _ ⟨⟨g128, rfl, trivial⟩, kc137, (show Own Slot.cs 3 w123 g.sb 159 ((sl2.set j (⟨.empty, 0, false⟩ : Slot)).set p110 x73) from ho124), (show ((sl2.set j (⟨.empty, 0, false⟩ : Slot)).set p110 x73).length = g.N from (by simp [hi65])), (show Ix.Del g.N (hN g.N) (tab ((sl2.set j (⟨.empty, 0, false⟩ : Slot)).set p110 x73)) i21 (Ix.nxt g.N j) e from (by rw [hts3]; exact hstep.2)), (show Ix.Cont g.N (tab ((sl2.set j (⟨.empty, 0, false⟩ : Slot)).set p110 x73)) (fun k => if k = key then none else M k) from (by rw [hts3]; exact Ix.Cont.move hi67 hTj hi66.jl hf112.lt hstep.1)), (show Ix.cnt (tab ((sl2.set j (⟨.empty, 0, false⟩ : Slot)).set p110 x73)) g.N = c - 1 from (by rw [hts3, Ix.cnt_move hTj hi66.jl hf112.lt hstep.1]; exact hi68))⟩ (by show Ix.dist g.N (Ix.nxt g.N j) e < Ix.dist g.N j e; exact hmu9))
    · refine exit (hK54 _ _ (genC [] trivial ?_))
      clear hK54; rintro E -
      refine seq fun K138 hK138 => ?_
      refine reg ?_
      refine s_y (y_assign (v := Vt) rfl) rfl ?_
      refine s_nil (hK138 _ _ (genC [(4, Vt)] ⟨rfl, trivial⟩ ?_))
      clear hK138; rintro E ⟨g139, -⟩
      refine ret (hret _ _ [Vt] ⟨g139, trivial⟩ ?_)
      obtain ⟨_, hokd⟩ := Ix.Del.done hi66 (tab_empty hx74 c78)
      have hc1 : ((c : Nat) : Int) - 1 = ((c - 1 : Nat) : Int) := by omega
      exact ⟨rfl, ⟨sl2, ⟨hc1 ▸ hb72, hi64, hi65⟩, hokd, hi67, hi68, by omega⟩, ka69⟩

end Go.Proofs.YtdcnblafepgheaaDoor
