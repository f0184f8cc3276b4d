/-
  Written by a program (wip/walks).
-/
import Derived.Test.YtdcnblafepgheaaDoorE2
namespace Go.Proofs.YtdcnblafepgheaaDoor
open Go Go.V
set_option maxRecDepth 100000
def hit (held : List (T4 × Bool)) (plain : Bool) (x : Int) (t : T4) : Prop := aget held t = none ∧ (plain = true ∨ cls x t.port)
/-- what Take comes to -/
def TakeR (g : PoolG) (held : List (T4 × Bool)) (first : V4) (x : Int) (plain : Bool) : Option T4 → Prop
  | none => ∀ (i : Nat) (a : V4) (m : Int), (ord g.l first)[i]? = some a → g.low ≤ m → m ≤ g.high → ¬ hit held plain x ⟨a, m⟩
  | some t => g.low ≤ t.port ∧ t.port ≤ g.high ∧ hit held plain x t ∧ ∃ i, (ord g.l first)[i]? = some t.addr ∧
      (∀ (j : Nat) (a : V4) (m : Int), j < i → (ord g.l first)[j]? = some a → g.low ≤ m → m ≤ g.high → ¬ hit held plain x ⟨a, m⟩) ∧ ∀ m : Int, g.low ≤ m → m < t.port → ¬ hit held plain x ⟨t.addr, m⟩
theorem ord_len (l : List V4) (a : V4) : (ord l a).length = l.length := by
  unfold ord
  split
  · rename_i h
    have := List.length_erase_of_mem h
    have := List.length_pos_of_mem h
    simp only [List.length_cons]; omega
  · rfl
def takeE (x : Int) : Option T4 → Int
  | some _ => 0
  | none => if isPort x then 6 else 1
def takeV : Option T4 → T4
  | some t => t
  | none => ⟨⟨0, 0, 0, 0⟩, 0⟩
def takeH (held : List (T4 × Bool)) : Option T4 → List (T4 × Bool)
  | some t => held ++ [(t, false)]
  | none => held
/-- Take, its bad port with it -/
def TakeQ (g : PoolG) (held : List (T4 × Bool)) (first : V4) (x : Int) (plain : Bool) (r : Option T4) : Prop := if isPort x then TakeR g held first x plain r else r = none
theorem take_spec {g : PoolG} {held : List (T4 × Bool)} {w : World} (h : PoolIs g held w) (ok : PoolOk g) (a : V4) (x : Int) (plain : Bool) : Rets Tryd.prog 83 #[(.pointer (some ⟨g.pb, 0, none⟩)), (v4 a), (.int .i64 x), (.bool (plain))] w fun v w' => ∃ r, v = .tuple #[t4 (takeV r), .int .i64 (takeE x r)] ∧ TakeQ g held a x plain r ∧ PoolIs g (takeH held r) w' ∧ Kp (· = g.mb) w w' := by
  refine enter Tryd.func83 rfl Tryd.ntmps83 rfl fun Q hret hend E hE => ?_
  have g1 : E 0 = (Vp g.pb 0) := hE 0
  have g2 : E 1 = (v4 a) := hE 1
  have g3 : E 2 = (Vi x) := hE 2
  have g4 : E 3 = (.bool (plain)) := hE 3
  clear hE
  have hb0 := h.blk; have hl0 := h.row; have hm0 := h.map; have hn1 : g.pb ≠ g.mb := blk_ne_map h.blk h.map; have hn2 : g.lb ≠ g.mb := h.row.ne_map h.map
  have hlen := ok.len; have hlo := ok.lo; have hhi := ok.hi; have hle := ok.le; have hcap := ok.cap
  refine seq fun K5 hK5 => ?_
  refine reg ?_
  refine s_e (e_box (v := (v4 a)) g2) rfl ?_
  rintro _ w6 ⟨rfl, hb7, hk8⟩
  have ka9 : Kp (· = g.mb) w w6 := (Kp.then0 (Kp.refl _ _) hk8)
  refine s_e (e_alloc ze34) rfl ?_
  rintro _ w10 ⟨rfl, hb11, hk12⟩
  have ka13 := (Kp.then0 ka9 hk12)
  refine s_y (y_assign (v := (Vi 0)) rfl) rfl ?_
  refine s_nil (hK5 _ _ (genC [(0, (Vp g.pb 0)), (2, (Vi x)), (3, (.bool (plain))), (5, (Vp w.heap.size 0)), (8, (Vp w6.heap.size 0))] ⟨g1, g3, g4, rfl, rfl, trivial⟩ ?_))
  clear hK5; rintro E ⟨g14, g15, g16, g17, g18, -⟩
  refine seq fun K19 hK19 => ?_
  refine seq fun K20 hK20 => ?_
  refine reg ?_
  refine s_y (y_move (v := (Vp g.pb 0)) g14) rfl ?_
  refine s_y (y_peq Tryd.underlying92 rfl rfl) rfl ?_
  refine s_y (y_move (v := Vf) rfl) rfl ?_
  refine s_gy (.yes rfl rfl) (y_move (v := (Vp g.pb 0)) g14) rfl ?_
  refine s_gy (.yes rfl rfl) (y_nil rfl) rfl ?_
  refine s_gy (.yes rfl rfl) (y_fld fo146_3 rfl) rfl ?_
  have hb21 := (hk12.get0 (hk8.get0 hb0))
  refine s_gy (.yes rfl rfl) (y_load (v := (.map (some g.mb))) rfl (rd_sc sc144 (On.now hb21) rfl)) rfl ?_
  refine s_gy (.yes rfl rfl) (y_meq Tryd.underlying144 rfl rfl) rfl ?_
  refine s_y (y_pick_f rfl (v := Vf) rfl) rfl ?_
  refine s_nil (hK20 _ _ (genC [(0, (Vp g.pb 0)), (2, (Vi x)), (3, (.bool (plain))), (5, (Vp w.heap.size 0)), (8, (Vp w6.heap.size 0)), (24, Vf)] ⟨g14, g15, g16, g17, g18, rfl, trivial⟩ ?_))
  clear hK20; rintro E ⟨g22, g23, g24, g25, g26, g27, -⟩
  refine cond_f g27 ?_
  refine skip (hK19 _ _ (genC [(0, (Vp g.pb 0)), (2, (Vi x)), (3, (.bool (plain))), (5, (Vp w.heap.size 0)), (8, (Vp w6.heap.size 0))] ⟨g22, g23, g24, g25, g26, trivial⟩ ?_))
  clear hK19; rintro E ⟨g28, g29, g30, g31, g32, -⟩
  refine seq fun K33 hK33 => ?_
  refine seq fun K34 hK34 => ?_
  refine reg ?_
  refine s_y (y_move (v := (Vi x)) g29) rfl ?_
  refine s_e (e_call ca79 (args := [(Vi x)]) rfl (port_spec x _)) rfl ?_
  rintro _ w35 ⟨rfl, hk36⟩
  have ka37 := (Kp.then0 ka13 hk36)
  refine s_y (y_notd rfl) rfl ?_
  refine s_nil (hK34 _ _ (genC [(0, (Vp g.pb 0)), (2, (Vi x)), (3, (.bool (plain))), (5, (Vp w.heap.size 0)), (8, (Vp w6.heap.size 0)), (28, (.bool (decide (¬ (isPort x)))))] ⟨g28, g29, g30, g31, g32, rfl, trivial⟩ ?_))
  clear hK34; rintro E ⟨g38, g39, g40, g41, g42, g43, -⟩
  refine cond_d g43 (fun c44 => ?_) (fun c44 => ?_)
  · refine seq fun K45 hK45 => ?_
    refine reg ?_
    refine s_y (y_build (vs := []) (v := (.agg #[U0, U0, U0, U0, .int .i64 0])) rfl (fun _ => by kernel_rfl)) rfl ?_
    have hb46 := (hk36.get0 hb11)
    refine s_e0 (e_storeV (cs' := #[U0, U0, U0, U0, (Vi 0)]) [U0, U0, U0, U0, (Vi 0)] g42 (v := (.agg #[U0, U0, U0, U0, .int .i64 0])) rfl rfl sz34 hb46 rfl rfl rfl) ?_
    rintro _ w47 ⟨hb48, hk49⟩
    have ka50 := (Kp.fresh ka37 hk49 fun _ e => nl (nl hk8.size (Nat.le_refl _)) (Nat.le_of_eq e.symm))
    refine s_y (y_assign (v := (Vi 1)) rfl) rfl ?_
    refine s_nil (hK45 _ _ (genC [(8, (Vp w6.heap.size 0)), (9, (Vi 1))] ⟨g42, rfl, trivial⟩ ?_))
    clear hK45; rintro E ⟨g51, g52, -⟩
    refine ret (hret _ _ [(t4 (⟨(⟨0, 0, 0, 0⟩ : V4), 0⟩ : T4)), (Vi 1)] ⟨⟨_, g51, (rd_agg (vs := [U0, U0, U0, U0, (Vi 0)]) ag34 (On.now hb48) (by kernel_rfl) rfl)⟩, g52, trivial⟩ ?_)
    have hb53 := (hk49.get (hk36.get0 hb21) (Nat.ne_of_lt (nt (nt (lt_of_get hb0) hk8.size) (Nat.le_refl _))))
    have hf54 := ((((hl0.kp hk8 id).kp hk12 id).kp hk36 id).kp hk49 (Nat.ne_of_lt (nt (nt (hl0.lt) hk8.size) (Nat.le_refl _))))
    have hf55 := ((((hm0.kp hk8 id).kp hk12 id).kp hk36 id).kp hk49 (Nat.ne_of_lt (nt (nt (hm0.lt) hk8.size) (Nat.le_refl _))))
    have hx9 : ¬ isPort x := by simpa using c44
    exact ⟨none, by simp [tup, takeV, takeE, hx9] <;> rfl, by simp [TakeQ, hx9], ⟨hb53, hf54, hf55⟩, ka50⟩
  · refine skip (hK33 _ _ (genC [(0, (Vp g.pb 0)), (2, (Vi x)), (3, (.bool (plain))), (5, (Vp w.heap.size 0)), (8, (Vp w6.heap.size 0))] ⟨g38, g39, g40, g41, g42, trivial⟩ ?_))
    clear hK33; rintro E ⟨g56, g57, g58, g59, g60, -⟩
    refine seq fun K61 hK61 => ?_
    refine seq fun K62 hK62 => ?_
    refine reg ?_
    refine s_y (y_move (v := (Vp g.pb 0)) g56) rfl ?_
    have hb63 := (hk36.get0 (hk12.get0 hb7))
    refine s_y (y_load (v := (v4 a)) g59 (rd_agg (vs := [(u8 a.a), (u8 a.b), (u8 a.c), (u8 a.d)]) ag27 (On.now hb63) (by kernel_rfl) rfl)) rfl ?_
    have hb64 := (hk36.get0 hb21)
    have hf65 := (((hl0.kp hk8 id).kp hk12 id).kp hk36 id)
    have hf66 := (((hm0.kp hk8 id).kp hk12 id).kp hk36 id)
    refine s_e (e_call ca105 (args := [(Vp g.pb 0), (v4 a)]) rfl (order_spec ⟨hb64, hf65, hf66⟩ ok a)) rfl ?_
    rintro _ w67 ⟨⟨ob69, on70, oc71, rfl, hon72, hge73, hoe74⟩, hk68⟩
    have ka75 := (Kp.then0 ka37 hk68)
    refine s_y (y_lenS so28 rfl) rfl ?_
    refine s_y (y_move (v := (Vi 0)) rfl) rfl ?_
    refine s_nil (hK62 _ _ (genC [(0, (Vp g.pb 0)), (2, (Vi x)), (3, (.bool (plain))), (8, (Vp w6.heap.size 0)), (32, (.slice (some ⟨ob69, 0, none⟩) on70 oc71)), (33, (Vi (((on70 : Nat) : Int)))), (34, (Vi 0))] ⟨g56, g57, g58, g60, rfl, rfl, rfl, trivial⟩ ?_))
    clear hK62; rintro E ⟨g76, g77, g78, g79, g80, g81, g82, -⟩
    refine block ?_
    have hol9 := ord_len g.l a
    refine loopG (X := Nat) (fun q_ E w_ => Has E [(0, (Vp g.pb 0)), (2, (Vi x)), (3, (.bool (plain))), (8, (Vp w6.heap.size 0)), (32, (.slice (some ⟨ob69, 0, none⟩) on70 oc71)), (33, (Vi (((on70 : Nat) : Int)))), (34, (Vi (((q_ : Nat) : Int))))] ∧ Kp (fun _ => False) w67 w_ ∧ (q_ ≤ on70) ∧ (∀ j a_ m, j < q_ → (ord g.l a)[j]? = some a_ → g.low ≤ m → m ≤ g.high → ¬ hit held plain x ⟨a_, m⟩)) (fun q_ => on70 - q_) 0 ⟨⟨g76, g77, g78, g79, g80, g81, g82, trivial⟩, Kp.refl _ _, (show 0 ≤ on70 from (by omega)), (show ∀ j a_ m, j < 0 → (ord g.l a)[j]? = some a_ → g.low ≤ m → m ≤ g.high → ¬ hit held plain x ⟨a_, m⟩ from (by intro j a m hj; omega))⟩ ?_
    rintro i E w90 ⟨⟨g83, g84, g85, g86, g87, g88, g89, -⟩, hk91, hi93, hi94⟩ K92 hK92
    replace hi93 : i ≤ on70 := hi93
    replace hi94 : ∀ j a_ m, j < i → (ord g.l a)[j]? = some a_ → g.low ≤ m → m ≤ g.high → ¬ hit held plain x ⟨a_, m⟩ := hi94
    have ka95 := (Kp.then0 ka75 hk91)
    refine seq fun K96 hK96 => ?_
    refine reg ?_
    refine s_y (y_lss g89 g88) rfl ?_
    refine s_nil (hK96 _ _ (genC [(0, (Vp g.pb 0)), (2, (Vi x)), (3, (.bool (plain))), (8, (Vp w6.heap.size 0)), (32, (.slice (some ⟨ob69, 0, none⟩) on70 oc71)), (33, (Vi (((on70 : Nat) : Int)))), (34, (Vi (((i : Nat) : Int)))), (35, (.bool (decide ((((i : Nat) : Int) : Int) < ((on70 : Nat) : Int)))))] ⟨g83, g84, g85, g86, g87, g88, g89, rfl, trivial⟩ ?_))
    clear hK96; rintro E ⟨g97, g98, g99, g100, g101, g102, g103, g104, -⟩
    refine seq fun K105 hK105 => ?_
    refine cond_d g104 (fun c106 => ?_) (fun c106 => ?_)
    · refine skip (hK105 _ _ (genC [(0, (Vp g.pb 0)), (2, (Vi x)), (3, (.bool (plain))), (8, (Vp w6.heap.size 0)), (32, (.slice (some ⟨ob69, 0, none⟩) on70 oc71)), (33, (Vi (((on70 : Nat) : Int)))), (34, (Vi (((i : Nat) : Int))))] ⟨g97, g98, g99, g100, g101, g102, g103, trivial⟩ ?_))
      clear hK105; rintro E ⟨g107, g108, g109, g110, g111, g112, g113, -⟩
      refine seq fun K114 hK114 => ?_
      refine block ?_
      refine seq fun K115 hK115 => ?_
      refine reg ?_
      refine s_y (y_idx so28 sz27 g111 (i := i) g113 (by omega)) rfl ?_
      have hf116 := (hoe74.kp hk91 id)
      obtain ⟨x117, hx118⟩ : ∃ x, (ord g.l a)[i]? = some x := ⟨_, List.getElem?_eq_getElem (by omega)⟩
      refine s_y (y_load (v := (.agg #[u8 x117.a, u8 x117.b, u8 x117.c, u8 x117.d])) rfl (rd_el ag27 (EltsOn.now hf116) hx118 (vs := [(u8 x117.a), (u8 x117.b), (u8 x117.c), (u8 x117.d)]) rfl)) rfl ?_
      refine s_e (e_alloc ze27) rfl ?_
      rintro _ w119 ⟨rfl, hb120, hk121⟩
      have ka122 := (Kp.then0 ka95 hk121)
      refine s_e0 (e_storeV (cs' := #[(u8 x117.a), (u8 x117.b), (u8 x117.c), (u8 x117.d)]) [(u8 x117.a), (u8 x117.b), (u8 x117.c), (u8 x117.d)] rfl (v := (.agg #[u8 x117.a, u8 x117.b, u8 x117.c, u8 x117.d])) rfl rfl sz27 hb120 rfl rfl rfl) ?_
      rintro _ w123 ⟨hb124, hk125⟩
      have hz127 := (nl (nl (nl (nl hk8.size hk12.size) hk36.size) hk68.size) hk91.size)
      have ka126 := (Kp.fresh ka122 hk125 fun _ e => nl (nl hz127 (Nat.le_refl _)) (Nat.le_of_eq e.symm))
      refine s_nil (hK115 _ _ (genC [(0, (Vp g.pb 0)), (2, (Vi x)), (3, (.bool (plain))), (8, (Vp w6.heap.size 0)), (11, (Vp w90.heap.size 0)), (32, (.slice (some ⟨ob69, 0, none⟩) on70 oc71)), (33, (Vi (((on70 : Nat) : Int)))), (34, (Vi (((i : Nat) : Int))))] ⟨g107, g108, g109, g110, rfl, g111, g112, g113, trivial⟩ ?_))
      clear hK115; rintro E ⟨g128, g129, g130, g131, g132, g133, g134, g135, -⟩
      refine seq fun K136 hK136 => ?_
      refine reg ?_
      refine s_y (y_move (v := (Vp g.pb 0)) g128) rfl ?_
      refine s_y (y_nil rfl) rfl ?_
      refine s_y (y_fld fo146_1 rfl) rfl ?_
      have hb137 := (hk125.get (hk121.get0 (hk91.get0 (hk68.get0 hb64))) (Nat.ne_of_lt (nt (nt (lt_of_get hb64) (nl hk68.size hk91.size)) (Nat.le_refl _))))
      refine s_y (y_load (v := (Vi (g.low))) rfl (rd_sc sc3 (On.now hb137) rfl)) rfl ?_
      refine s_y (y_assign (v := (Vi (g.low))) rfl) rfl ?_
      refine s_nil (hK136 _ _ (genC [(0, (Vp g.pb 0)), (2, (Vi x)), (3, (.bool (plain))), (8, (Vp w6.heap.size 0)), (11, (Vp w90.heap.size 0)), (12, (Vi (g.low))), (32, (.slice (some ⟨ob69, 0, none⟩) on70 oc71)), (33, (Vi (((on70 : Nat) : Int)))), (34, (Vi (((i : Nat) : Int))))] ⟨g128, g129, g130, g131, g132, rfl, g133, g134, g135, trivial⟩ ?_))
      clear hK136; rintro E ⟨g138, g139, g140, g141, g142, g143, g144, g145, g146, -⟩
      refine block ?_
      refine loopG (X := Int) (fun q_ E w_ => Has E [(0, (Vp g.pb 0)), (2, (Vi x)), (3, (.bool (plain))), (8, (Vp w6.heap.size 0)), (32, (.slice (some ⟨ob69, 0, none⟩) on70 oc71)), (33, (Vi (((on70 : Nat) : Int)))), (34, (Vi (((i : Nat) : Int)))), (11, (Vp w90.heap.size 0)), (12, (Vi q_))] ∧ Kp (fun _ => False) w123 w_ ∧ (g.low ≤ q_) ∧ (q_ ≤ g.high + 1) ∧ (∀ m_, g.low ≤ m_ → m_ < q_ → ¬ hit held plain x ⟨x117, m_⟩)) (fun q_ => (g.high + 1 - q_).toNat) g.low ⟨⟨g138, g139, g140, g141, g144, g145, g146, g142, g143, trivial⟩, Kp.refl _ _, (show g.low ≤ g.low from (by omega)), (show g.low ≤ g.high + 1 from (by omega)), (show ∀ m_, g.low ≤ m_ → m_ < g.low → ¬ hit held plain x ⟨x117, m_⟩ from (by intro m h1 h2; omega))⟩ ?_
      rintro m E w156 ⟨⟨g147, g148, g149, g150, g151, g152, g153, g154, g155, -⟩, hk157, hi159, hi160, hi161⟩ K158 hK158
      replace hi159 : g.low ≤ m := hi159
      replace hi160 : m ≤ g.high + 1 := hi160
      replace hi161 : ∀ m_, g.low ≤ m_ → m_ < m → ¬ hit held plain x ⟨x117, m_⟩ := hi161
      have ka162 := (Kp.then0 ka126 hk157)
      refine seq fun K163 hK163 => ?_
      refine seq fun K164 hK164 => ?_
      refine reg ?_
      refine s_y (y_move (v := (Vi m)) g155) rfl ?_
      refine s_y (y_move (v := (Vp g.pb 0)) g147) rfl ?_
      refine s_y (y_nil rfl) rfl ?_
      refine s_y (y_fld fo146_2 rfl) rfl ?_
      have hb165 := (hk157.get0 hb137)
      refine s_y (y_load (v := (Vi (g.high))) rfl (rd_sc sc3 (On.now hb165) rfl)) rfl ?_
      refine s_y (y_leq rfl rfl) rfl ?_
      refine s_nil (hK164 _ _ (genC [(0, (Vp g.pb 0)), (2, (Vi x)), (3, (.bool (plain))), (8, (Vp w6.heap.size 0)), (11, (Vp w90.heap.size 0)), (12, (Vi m)), (32, (.slice (some ⟨ob69, 0, none⟩) on70 oc71)), (33, (Vi (((on70 : Nat) : Int)))), (34, (Vi (((i : Nat) : Int)))), (47, (.bool (decide ((m : Int) ≤ g.high))))] ⟨g147, g148, g149, g150, g154, g155, g151, g152, g153, rfl, trivial⟩ ?_))
      clear hK164; rintro E ⟨g166, g167, g168, g169, g170, g171, g172, g173, g174, g175, -⟩
      refine cond_d g175 (fun c176 => ?_) (fun c176 => ?_)
      · refine skip (hK163 _ _ (genC [(0, (Vp g.pb 0)), (2, (Vi x)), (3, (.bool (plain))), (8, (Vp w6.heap.size 0)), (11, (Vp w90.heap.size 0)), (12, (Vi m)), (32, (.slice (some ⟨ob69, 0, none⟩) on70 oc71)), (33, (Vi (((on70 : Nat) : Int)))), (34, (Vi (((i : Nat) : Int))))] ⟨g166, g167, g168, g169, g170, g171, g172, g173, g174, trivial⟩ ?_))
        clear hK163; rintro E ⟨g177, g178, g179, g180, g181, g182, g183, g184, g185, -⟩
        refine seq fun K186 hK186 => ?_
        refine block ?_
        refine seq fun K187 hK187 => ?_
        refine reg ?_
        have hb188 := (hk157.get0 hb124)
        refine s_y (y_load (v := (v4 x117)) g181 (rd_agg (vs := [(u8 x117.a), (u8 x117.b), (u8 x117.c), (u8 x117.d)]) ag27 (On.now hb188) (by kernel_rfl) rfl)) rfl ?_
        refine s_y (y_move (v := (Vi m)) g182) rfl ?_
        refine s_y (y_build (vs := [(0, (v4 x117)), (1, (Vi m))]) (v := (.agg #[u8 x117.a, u8 x117.b, u8 x117.c, u8 x117.d, .int .i64 m])) rfl (fun _ => by kernel_rfl)) rfl ?_
        refine s_e (e_alloc ze34) rfl ?_
        rintro _ w189 ⟨rfl, hb190, hk191⟩
        have ka192 := (Kp.then0 ka162 hk191)
        refine s_e0 (e_storeV (cs' := #[(u8 x117.a), (u8 x117.b), (u8 x117.c), (u8 x117.d), (Vi m)]) [(u8 x117.a), (u8 x117.b), (u8 x117.c), (u8 x117.d), (Vi m)] rfl (v := (.agg #[u8 x117.a, u8 x117.b, u8 x117.c, u8 x117.d, .int .i64 m])) rfl rfl sz34 hb190 rfl rfl rfl) ?_
        rintro _ w193 ⟨hb194, hk195⟩
        have hz197 := (nl (nl (nl hz127 hk121.size) hk125.size) hk157.size)
        have ka196 := (Kp.fresh ka192 hk195 fun _ e => nl (nl hz197 (Nat.le_refl _)) (Nat.le_of_eq e.symm))
        refine s_nil (hK187 _ _ (genC [(0, (Vp g.pb 0)), (2, (Vi x)), (3, (.bool (plain))), (8, (Vp w6.heap.size 0)), (11, (Vp w90.heap.size 0)), (12, (Vi m)), (13, (Vp w156.heap.size 0)), (32, (.slice (some ⟨ob69, 0, none⟩) on70 oc71)), (33, (Vi (((on70 : Nat) : Int)))), (34, (Vi (((i : Nat) : Int))))] ⟨g177, g178, g179, g180, g181, g182, rfl, g183, g184, g185, trivial⟩ ?_))
        clear hK187; rintro E ⟨g198, g199, g200, g201, g202, g203, g204, g205, g206, g207, -⟩
        refine seq fun K208 hK208 => ?_
        refine regD (fun _ => False) (.take 0 (.take 1 (.take 2 (.take 3 (.take 4 (.take 5 (.take 6 (.take 7 (.take 8 (.take 9 (.take 10 .done))))))))))) mixed (by kernel_rfl) fun w209 hh210 hk211 => ?_
        have ka212 := (Kp.then0 ka196 hk211)
        refine o_y rfl (y_move (v := (Vp g.pb 0)) g198) ?_
        refine o_y rfl (y_nil rfl) ?_
        refine o_y rfl (y_fld fo146_3 rfl) ?_
        refine o_y rfl (y_load (v := (.map (some g.mb))) rfl (rd_sc sc144 (On.kp (hk211.get0 (hk195.get (hk191.get0 hb165) (Nat.ne_of_lt (nt (lt_of_get hb165) (Nat.le_refl _))))) id) rfl)) ?_
        refine o_y rfl (y_load (v := (t4 (⟨x117, m⟩ : T4))) g204 (rd_agg (vs := [(u8 x117.a), (u8 x117.b), (u8 x117.c), (u8 x117.d), (Vi m)]) ag34 (On.kp (hk211.get0 hb194) id) (by kernel_rfl) rfl)) ?_
        have hz213 := (nl (nl (nl (nl hk68.size hk91.size) hk121.size) hk125.size) hk157.size)
        cases c214 : aget held (⟨x117, m⟩ : T4) with
        | none =>
          refine o_y rfl (y_lookup2_none kf34 Tryd.underlying144 ze4 (MapOn.kp ((((((((hf66.kp hk68 id).kp hk91 id).kp hk121 id).kp hk125 (Nat.ne_of_lt (nt (nt (hf66.lt) (nl hk68.size hk91.size)) (Nat.le_refl _)))).kp hk157 id).kp hk191 id).kp hk195 (Nat.ne_of_lt (nt (nt (hf66.lt) hz213) (Nat.le_refl _)))).kp hk211 id) id) rfl rfl (show inI m from inI_of (by omega) (by omega)) c214) ?_
          refine o_y rfl (y_move (v := (.tuple #[Vf, Vf])) rfl) ?_
          refine o_y rfl (y_ext rfl (v := Vf) rfl) ?_
          refine o_y rfl (y_ext rfl (v := Vf) rfl) ?_
          refine o_y rfl (y_assign (v := Vf) rfl) ?_
          refine o_y rfl (y_assign (v := Vf) rfl) ?_
          refine o_done (hK208 _ _ (genC [(0, (Vp g.pb 0)), (2, (Vi x)), (3, (.bool (plain))), (8, (Vp w6.heap.size 0)), (11, (Vp w90.heap.size 0)), (12, (Vi m)), (13, (Vp w156.heap.size 0)), (15, Vf), (32, (.slice (some ⟨ob69, 0, none⟩) on70 oc71)), (33, (Vi (((on70 : Nat) : Int)))), (34, (Vi (((i : Nat) : Int))))] ⟨g198, g199, g200, g201, g202, g203, g204, rfl, g205, g206, g207, trivial⟩ ?_))
          clear hK208; rintro E ⟨g216, g217, g218, g219, g220, g221, g222, g223, g224, g225, g226, -⟩
          refine seq fun K227 hK227 => ?_
          refine reg ?_
          refine s_y (y_move (v := Vf) g223) rfl ?_
          refine s_y (y_not rfl) rfl ?_
          refine s_y (y_move (v := Vt) rfl) rfl ?_
          refine s_gy (.yes rfl rfl) (y_move (v := (.bool (plain))) g218) rfl ?_
          refine s_gy (.yes rfl rfl) (y_move (v := (.bool (plain))) rfl) rfl ?_
          refine (Bool.eq_false_or_eq_true (plain)).elim (fun c228 => ?_) (fun c228 => ?_)
          · refine s_no (.no rfl (c := true) (congrArg Value.bool c228) rfl) rfl ?_
            refine s_no (.no rfl (c := true) (congrArg Value.bool c228) rfl) rfl ?_
            refine s_no (.no rfl (c := true) (congrArg Value.bool c228) rfl) rfl ?_
            refine s_gy (.yes rfl rfl) (y_pick_t (congrArg Value.bool c228) (v := Vt) rfl) rfl ?_
            refine s_y (y_pick_t rfl (v := Vt) rfl) rfl ?_
            refine s_nil (hK227 _ _ (genC [(0, (Vp g.pb 0)), (2, (Vi x)), (3, Vt), (8, (Vp w6.heap.size 0)), (11, (Vp w90.heap.size 0)), (12, (Vi m)), (13, (Vp w156.heap.size 0)), (32, (.slice (some ⟨ob69, 0, none⟩) on70 oc71)), (33, (Vi (((on70 : Nat) : Int)))), (34, (Vi (((i : Nat) : Int)))), (71, Vt)] ⟨g216, g217, (Eq.trans g218 (congrArg Value.bool c228)), g219, g220, g221, g222, g224, g225, g226, rfl, trivial⟩ ?_))
            clear hK227; rintro E ⟨g229, g230, g231, g232, g233, g234, g235, g236, g237, g238, g239, -⟩
            refine cond_t g239 ?_
            refine seq fun K240 hK240 => ?_
            refine regD (· = g.mb) (.take 0 (.take 1 (.take 2 (.take 3 (.take 4 (.one 5 .done)))))) mixed (by kernel_rfl) fun w241 hh242 hk243 => ?_
            have ka244 := (Kp.then0 ka212 hk243)
            refine o_y rfl (y_move (v := (Vp g.pb 0)) g229) ?_
            refine o_y rfl (y_nil rfl) ?_
            refine o_y rfl (y_fld fo146_3 rfl) ?_
            refine o_y rfl (y_load (v := (.map (some g.mb))) rfl (rd_sc sc144 (On.kp (hk243.get0 (hk211.get0 (hk195.get (hk191.get0 hb165) (Nat.ne_of_lt (nt (lt_of_get hb165) (Nat.le_refl _)))))) hn1) rfl)) ?_
            refine o_y rfl (y_load (v := (t4 (⟨x117, m⟩ : T4))) g235 (rd_agg (vs := [(u8 x117.a), (u8 x117.b), (u8 x117.c), (u8 x117.d), (Vi m)]) ag34 (On.kp (hk243.get0 (hk211.get0 hb194)) (Nat.ne_of_gt (nt (nt (hf66.lt) hz213) (Nat.le_refl _)))) (by kernel_rfl) rfl)) ?_
            refine o_one ?_
            have hf245 := (((((((((hf66.kp hk68 id).kp hk91 id).kp hk121 id).kp hk125 (Nat.ne_of_lt (nt (nt (hf66.lt) (nl hk68.size hk91.size)) (Nat.le_refl _)))).kp hk157 id).kp hk191 id).kp hk195 (Nat.ne_of_lt (nt (nt (hf66.lt) hz213) (Nat.le_refl _)))).kp hk211 id).kp hk243 id)
            refine c_e0 rfl (e_mapPut kf34 Tryd.underlying144 hf245 rfl rfl (v := false) rfl (show inI m from inI_of (by omega) (by omega)) c214) ?_
            rintro _ w246 ⟨hm247, hk248⟩
            have ka249 := (Kp.trans ka244 hk248 (fun _ _ e => e))
            have ks250 : Kp (· = g.mb) w241 w246 := (Kp.trans (Kp.refl _ _) hk248 (fun _ _ e => e))
            refine ⟨ks250, ?_⟩
            refine o_done (hK240 _ _ (genC [(8, (Vp w6.heap.size 0)), (13, (Vp w156.heap.size 0))] ⟨g232, g235, trivial⟩ ?_))
            clear hK240; rintro E ⟨g251, g252, -⟩
            refine seq fun K253 hK253 => ?_
            refine reg ?_
            have hb254 := (hk248.get (hk243.get0 (hk211.get0 hb194)) (Nat.ne_of_gt (nt (nt (hf66.lt) hz213) (Nat.le_refl _))))
            refine s_y (y_load (v := (t4 (⟨x117, m⟩ : T4))) g252 (rd_agg (vs := [(u8 x117.a), (u8 x117.b), (u8 x117.c), (u8 x117.d), (Vi m)]) ag34 (On.now hb254) (by kernel_rfl) rfl)) rfl ?_
            have hz255 := (nl (nl hk36.size hk68.size) hk91.size)
            have hz256 := (nl (nl (nl hz255 hk121.size) hk125.size) hk157.size)
            have hb257 := (hk248.get (hk243.get0 (hk211.get0 (hk195.get (hk191.get0 (hk157.get0 (hk125.get (hk121.get0 (hk91.get0 (hk68.get0 (hk36.get0 hb11)))) (Nat.ne_of_lt (nt (nt (lt_of_get hb11) hz255) (Nat.le_refl _)))))) (Nat.ne_of_lt (nt (nt (lt_of_get hb11) hz256) (Nat.le_refl _)))))) (Nat.ne_of_gt (nt (nt (hm0.lt) hk8.size) (Nat.le_refl _))))
            refine s_e0 (e_storeV (cs' := #[(u8 x117.a), (u8 x117.b), (u8 x117.c), (u8 x117.d), (Vi m)]) [(u8 x117.a), (u8 x117.b), (u8 x117.c), (u8 x117.d), (Vi m)] g251 (v := (t4 (⟨x117, m⟩ : T4))) rfl rfl sz34 hb257 rfl rfl rfl) ?_
            rintro _ w258 ⟨hb259, hk260⟩
            have ka261 := (Kp.fresh ka249 hk260 fun _ e => nl (nl hk8.size (Nat.le_refl _)) (Nat.le_of_eq e.symm))
            refine s_y (y_assign (v := (Vi 0)) rfl) rfl ?_
            refine s_nil (hK253 _ _ (genC [(8, (Vp w6.heap.size 0)), (9, (Vi 0))] ⟨g251, rfl, trivial⟩ ?_))
            clear hK253; rintro E ⟨g262, g263, -⟩
            refine ret (hret _ _ [(t4 (⟨x117, m⟩ : T4)), (Vi 0)] ⟨⟨_, g262, (rd_agg (vs := [(u8 x117.a), (u8 x117.b), (u8 x117.c), (u8 x117.d), (Vi m)]) ag34 (On.now hb259) (by kernel_rfl) rfl)⟩, g263, trivial⟩ ?_)
            have hb264 := (hk260.get (hk248.get (hk243.get0 (hk211.get0 (hk195.get (hk191.get0 hb165) (Nat.ne_of_lt (nt (lt_of_get hb165) (Nat.le_refl _)))))) hn1) (Nat.ne_of_lt (nt (nt (lt_of_get hb0) hk8.size) (Nat.le_refl _))))
            have hf265 := (((((((((((hf65.kp hk68 id).kp hk91 id).kp hk121 id).kp hk125 (Nat.ne_of_lt (nt (nt (hf65.lt) (nl hk68.size hk91.size)) (Nat.le_refl _)))).kp hk157 id).kp hk191 id).kp hk195 (Nat.ne_of_lt (nt (nt (hf65.lt) hz213) (Nat.le_refl _)))).kp hk211 id).kp hk243 id).kp hk248 hn2).kp hk260 (Nat.ne_of_lt (nt (nt (hl0.lt) hk8.size) (Nat.le_refl _))))
            have hf266 := (hm247.kp hk260 (Nat.ne_of_lt (nt (nt (hm0.lt) hk8.size) (Nat.le_refl _))))
            have hx9 : isPort x := by simpa using c44
            refine ⟨some (⟨x117, m⟩ : T4), rfl, ?_, ⟨hb264, hf265, hf266⟩, ka261⟩
            unfold TakeQ; rw [if_pos hx9]
            exact ⟨by assumption, by assumption, by grind [hit], i, hx118, hi94, hi161⟩
          · refine s_gy (.yes rfl (congrArg Value.bool c228)) (y_move (v := (Vi x)) g217) rfl ?_
            refine s_gy (.yes rfl (congrArg Value.bool c228)) (y_move (v := (Vi m)) g221) rfl ?_
            refine s_ge (.yes rfl (congrArg Value.bool c228)) (e_call ca42 (args := [(Vi x), (Vi m)]) rfl (class_spec x m _)) rfl ?_
            rintro _ w267 ⟨rfl, hk268⟩
            have ka269 := (Kp.then0 ka212 hk268)
            refine s_gy (.yes rfl rfl) (y_pick_f (congrArg Value.bool c228) (v := (.bool (decide (cls x m)))) rfl) rfl ?_
            refine s_y (y_pick_t rfl (v := (.bool (decide (cls x m)))) rfl) rfl ?_
            refine s_nil (hK227 _ _ (genC [(0, (Vp g.pb 0)), (2, (Vi x)), (3, Vf), (8, (Vp w6.heap.size 0)), (11, (Vp w90.heap.size 0)), (12, (Vi m)), (13, (Vp w156.heap.size 0)), (32, (.slice (some ⟨ob69, 0, none⟩) on70 oc71)), (33, (Vi (((on70 : Nat) : Int)))), (34, (Vi (((i : Nat) : Int)))), (71, (.bool (decide (cls x m))))] ⟨g216, g217, (Eq.trans g218 (congrArg Value.bool c228)), g219, g220, g221, g222, g224, g225, g226, rfl, trivial⟩ ?_))
            clear hK227; rintro E ⟨g270, g271, g272, g273, g274, g275, g276, g277, g278, g279, g280, -⟩
            refine cond_d g280 (fun c281 => ?_) (fun c281 => ?_)
            · refine seq fun K282 hK282 => ?_
              refine regD (· = g.mb) (.take 0 (.take 1 (.take 2 (.take 3 (.take 4 (.one 5 .done)))))) mixed (by kernel_rfl) fun w283 hh284 hk285 => ?_
              have ka286 := (Kp.then0 ka269 hk285)
              refine o_y rfl (y_move (v := (Vp g.pb 0)) g270) ?_
              refine o_y rfl (y_nil rfl) ?_
              refine o_y rfl (y_fld fo146_3 rfl) ?_
              refine o_y rfl (y_load (v := (.map (some g.mb))) rfl (rd_sc sc144 (On.kp (hk285.get0 (hk268.get0 (hk211.get0 (hk195.get (hk191.get0 hb165) (Nat.ne_of_lt (nt (lt_of_get hb165) (Nat.le_refl _))))))) hn1) rfl)) ?_
              refine o_y rfl (y_load (v := (t4 (⟨x117, m⟩ : T4))) g276 (rd_agg (vs := [(u8 x117.a), (u8 x117.b), (u8 x117.c), (u8 x117.d), (Vi m)]) ag34 (On.kp (hk285.get0 (hk268.get0 (hk211.get0 hb194))) (Nat.ne_of_gt (nt (nt (hf66.lt) hz213) (Nat.le_refl _)))) (by kernel_rfl) rfl)) ?_
              refine o_one ?_
              have hf287 := ((((((((((hf66.kp hk68 id).kp hk91 id).kp hk121 id).kp hk125 (Nat.ne_of_lt (nt (nt (hf66.lt) (nl hk68.size hk91.size)) (Nat.le_refl _)))).kp hk157 id).kp hk191 id).kp hk195 (Nat.ne_of_lt (nt (nt (hf66.lt) hz213) (Nat.le_refl _)))).kp hk211 id).kp hk268 id).kp hk285 id)
              refine c_e0 rfl (e_mapPut kf34 Tryd.underlying144 hf287 rfl rfl (v := false) rfl (show inI m from inI_of (by omega) (by omega)) c214) ?_
              rintro _ w288 ⟨hm289, hk290⟩
              have ka291 := (Kp.trans ka286 hk290 (fun _ _ e => e))
              have ks292 : Kp (· = g.mb) w283 w288 := (Kp.trans (Kp.refl _ _) hk290 (fun _ _ e => e))
              refine ⟨ks292, ?_⟩
              refine o_done (hK282 _ _ (genC [(8, (Vp w6.heap.size 0)), (13, (Vp w156.heap.size 0))] ⟨g273, g276, trivial⟩ ?_))
              clear hK282; rintro E ⟨g293, g294, -⟩
              refine seq fun K295 hK295 => ?_
              refine reg ?_
              have hb296 := (hk290.get (hk285.get0 (hk268.get0 (hk211.get0 hb194))) (Nat.ne_of_gt (nt (nt (hf66.lt) hz213) (Nat.le_refl _))))
              refine s_y (y_load (v := (t4 (⟨x117, m⟩ : T4))) g294 (rd_agg (vs := [(u8 x117.a), (u8 x117.b), (u8 x117.c), (u8 x117.d), (Vi m)]) ag34 (On.now hb296) (by kernel_rfl) rfl)) rfl ?_
              have hz297 := (nl (nl hk36.size hk68.size) hk91.size)
              have hz298 := (nl (nl (nl hz297 hk121.size) hk125.size) hk157.size)
              have hb299 := (hk290.get (hk285.get0 (hk268.get0 (hk211.get0 (hk195.get (hk191.get0 (hk157.get0 (hk125.get (hk121.get0 (hk91.get0 (hk68.get0 (hk36.get0 hb11)))) (Nat.ne_of_lt (nt (nt (lt_of_get hb11) hz297) (Nat.le_refl _)))))) (Nat.ne_of_lt (nt (nt (lt_of_get hb11) hz298) (Nat.le_refl _))))))) (Nat.ne_of_gt (nt (nt (hm0.lt) hk8.size) (Nat.le_refl _))))
              refine s_e0 (e_storeV (cs' := #[(u8 x117.a), (u8 x117.b), (u8 x117.c), (u8 x117.d), (Vi m)]) [(u8 x117.a), (u8 x117.b), (u8 x117.c), (u8 x117.d), (Vi m)] g293 (v := (t4 (⟨x117, m⟩ : T4))) rfl rfl sz34 hb299 rfl rfl rfl) ?_
              rintro _ w300 ⟨hb301, hk302⟩
              have ka303 := (Kp.fresh ka291 hk302 fun _ e => nl (nl hk8.size (Nat.le_refl _)) (Nat.le_of_eq e.symm))
              refine s_y (y_assign (v := (Vi 0)) rfl) rfl ?_
              refine s_nil (hK295 _ _ (genC [(8, (Vp w6.heap.size 0)), (9, (Vi 0))] ⟨g293, rfl, trivial⟩ ?_))
              clear hK295; rintro E ⟨g304, g305, -⟩
              refine ret (hret _ _ [(t4 (⟨x117, m⟩ : T4)), (Vi 0)] ⟨⟨_, g304, (rd_agg (vs := [(u8 x117.a), (u8 x117.b), (u8 x117.c), (u8 x117.d), (Vi m)]) ag34 (On.now hb301) (by kernel_rfl) rfl)⟩, g305, trivial⟩ ?_)
              have hb306 := (hk302.get (hk290.get (hk285.get0 (hk268.get0 (hk211.get0 (hk195.get (hk191.get0 hb165) (Nat.ne_of_lt (nt (lt_of_get hb165) (Nat.le_refl _))))))) hn1) (Nat.ne_of_lt (nt (nt (lt_of_get hb0) hk8.size) (Nat.le_refl _))))
              have hf307 := ((((((((((((hf65.kp hk68 id).kp hk91 id).kp hk121 id).kp hk125 (Nat.ne_of_lt (nt (nt (hf65.lt) (nl hk68.size hk91.size)) (Nat.le_refl _)))).kp hk157 id).kp hk191 id).kp hk195 (Nat.ne_of_lt (nt (nt (hf65.lt) hz213) (Nat.le_refl _)))).kp hk211 id).kp hk268 id).kp hk285 id).kp hk290 hn2).kp hk302 (Nat.ne_of_lt (nt (nt (hl0.lt) hk8.size) (Nat.le_refl _))))
              have hf308 := (hm289.kp hk302 (Nat.ne_of_lt (nt (nt (hm0.lt) hk8.size) (Nat.le_refl _))))
              have hx9 : isPort x := by simpa using c44
              refine ⟨some (⟨x117, m⟩ : T4), rfl, ?_, ⟨hb306, hf307, hf308⟩, ka303⟩
              unfold TakeQ; rw [if_pos hx9]
              exact ⟨by assumption, by assumption, by grind [hit], i, hx118, hi94, hi161⟩
            · refine skip (hK186 _ _ (genC [(0, (Vp g.pb 0)), (2, (Vi x)), (3, Vf), (8, (Vp w6.heap.size 0)), (11, (Vp w90.heap.size 0)), (12, (Vi m)), (32, (.slice (some ⟨ob69, 0, none⟩) on70 oc71)), (33, (Vi (((on70 : Nat) : Int)))), (34, (Vi (((i : Nat) : Int))))] ⟨g270, g271, g272, g273, g274, g275, g277, g278, g279, trivial⟩ ?_))
              clear hK186; rintro E ⟨g309, g310, g311, g312, g313, g314, g315, g316, g317, -⟩
              refine reg ?_
              refine s_y (y_move (v := (Vi m)) g314) rfl ?_
              refine s_y (y_add rfl rfl (c := m + 1) (by omega) rfl) rfl ?_
              refine s_y (y_assign (v := (Vi (m + 1))) rfl) rfl ?_
              have kc318 : Kp (fun _ => False) w123 w156 := (Kp.then0 (Kp.refl _ _) hk157)
              have kc319 : Kp (fun _ => False) w123 w189 := (Kp.then0 kc318 hk191)
              have kc320 : Kp (fun _ => False) w123 w193 := (Kp.fresh kc319 hk195 fun _ e => nl (nl hk157.size (Nat.le_refl _)) (Nat.le_of_eq e.symm))
              have kc321 : Kp (fun _ => False) w123 w209 := (Kp.then0 kc320 hk211)
              have kc322 : Kp (fun _ => False) w123 w267 := (Kp.then0 kc321 hk268)
              exact s_nil (hK158 (m + 1) _ _ ⟨⟨g309, g310, (Eq.trans g311 (congrArg Value.bool c228.symm)), g312, g315, g316, g317, g313, rfl, trivial⟩, kc322, (show g.low ≤ (m + 1) from (by omega)), (show (m + 1) ≤ g.high + 1 from (by omega)), (show ∀ m_, g.low ≤ m_ → m_ < (m + 1) → ¬ hit held plain x ⟨x117, m_⟩ from (by
                  intro m hm1 hm2
                  by_cases e : m = m
                  · rw [e]; grind [hit]
                  · exact hi161 m hm1 (by omega)))⟩ (by show (g.high + 1 - (m + 1)).toNat < (g.high + 1 - m).toNat; omega))
        | some v215 =>
          refine o_y rfl (y_lookup2_some kf34 Tryd.underlying144 ze4 (MapOn.kp ((((((((hf66.kp hk68 id).kp hk91 id).kp hk121 id).kp hk125 (Nat.ne_of_lt (nt (nt (hf66.lt) (nl hk68.size hk91.size)) (Nat.le_refl _)))).kp hk157 id).kp hk191 id).kp hk195 (Nat.ne_of_lt (nt (nt (hf66.lt) hz213) (Nat.le_refl _)))).kp hk211 id) id) rfl rfl (show inI m from inI_of (by omega) (by omega)) c214) ?_
          refine o_y rfl (y_move (v := (.tuple #[(.bool (v215)), Vt])) rfl) ?_
          refine o_y rfl (y_ext rfl (v := (.bool (v215))) rfl) ?_
          refine o_y rfl (y_ext rfl (v := Vt) rfl) ?_
          refine o_y rfl (y_assign (v := (.bool (v215))) rfl) ?_
          refine o_y rfl (y_assign (v := Vt) rfl) ?_
          refine o_done (hK208 _ _ (genC [(0, (Vp g.pb 0)), (2, (Vi x)), (3, (.bool (plain))), (8, (Vp w6.heap.size 0)), (11, (Vp w90.heap.size 0)), (12, (Vi m)), (13, (Vp w156.heap.size 0)), (15, Vt), (32, (.slice (some ⟨ob69, 0, none⟩) on70 oc71)), (33, (Vi (((on70 : Nat) : Int)))), (34, (Vi (((i : Nat) : Int))))] ⟨g198, g199, g200, g201, g202, g203, g204, rfl, g205, g206, g207, trivial⟩ ?_))
          clear hK208; rintro E ⟨g323, g324, g325, g326, g327, g328, g329, g330, g331, g332, g333, -⟩
          refine seq fun K334 hK334 => ?_
          refine reg ?_
          refine s_y (y_move (v := Vt) g330) rfl ?_
          refine s_y (y_not rfl) rfl ?_
          refine s_y (y_move (v := Vf) rfl) rfl ?_
          refine s_no (.no rfl (c := false) rfl rfl) rfl ?_
          refine s_no (.no rfl (c := false) rfl rfl) rfl ?_
          refine s_no (.off rfl rfl) rfl ?_
          refine s_no (.off rfl rfl) rfl ?_
          refine s_no (.off rfl rfl) rfl ?_
          refine s_no (.no rfl (c := false) rfl rfl) rfl ?_
          refine s_y (y_pick_f rfl (v := Vf) rfl) rfl ?_
          refine s_nil (hK334 _ _ (genC [(0, (Vp g.pb 0)), (2, (Vi x)), (3, (.bool (plain))), (8, (Vp w6.heap.size 0)), (11, (Vp w90.heap.size 0)), (12, (Vi m)), (13, (Vp w156.heap.size 0)), (32, (.slice (some ⟨ob69, 0, none⟩) on70 oc71)), (33, (Vi (((on70 : Nat) : Int)))), (34, (Vi (((i : Nat) : Int)))), (71, Vf)] ⟨g323, g324, g325, g326, g327, g328, g329, g331, g332, g333, rfl, trivial⟩ ?_))
          clear hK334; rintro E ⟨g335, g336, g337, g338, g339, g340, g341, g342, g343, g344, g345, -⟩
          refine cond_f g345 ?_
          refine skip (hK186 _ _ (genC [(0, (Vp g.pb 0)), (2, (Vi x)), (3, (.bool (plain))), (8, (Vp w6.heap.size 0)), (11, (Vp w90.heap.size 0)), (12, (Vi m)), (32, (.slice (some ⟨ob69, 0, none⟩) on70 oc71)), (33, (Vi (((on70 : Nat) : Int)))), (34, (Vi (((i : Nat) : Int))))] ⟨g335, g336, g337, g338, g339, g340, g342, g343, g344, trivial⟩ ?_))
          clear hK186; rintro E ⟨g346, g347, g348, g349, g350, g351, g352, g353, g354, -⟩
          refine reg ?_
          refine s_y (y_move (v := (Vi m)) g351) rfl ?_
          refine s_y (y_add rfl rfl (c := m + 1) (by omega) rfl) rfl ?_
          refine s_y (y_assign (v := (Vi (m + 1))) rfl) rfl ?_
          have kc355 : Kp (fun _ => False) w123 w156 := (Kp.then0 (Kp.refl _ _) hk157)
          have kc356 : Kp (fun _ => False) w123 w189 := (Kp.then0 kc355 hk191)
          have kc357 : Kp (fun _ => False) w123 w193 := (Kp.fresh kc356 hk195 fun _ e => nl (nl hk157.size (Nat.le_refl _)) (Nat.le_of_eq e.symm))
          have kc358 : Kp (fun _ => False) w123 w209 := (Kp.then0 kc357 hk211)
          exact s_nil (hK158 (m + 1) _ _ ⟨⟨g346, g347, g348, g349, g352, g353, g354, g350, rfl, trivial⟩, kc358, (show g.low ≤ (m + 1) from (by omega)), (show (m + 1) ≤ g.high + 1 from (by omega)), (show ∀ m_, g.low ≤ m_ → m_ < (m + 1) → ¬ hit held plain x ⟨x117, m_⟩ from (by
              intro m hm1 hm2
              by_cases e : m = m
              · rw [e]; grind [hit]
              · exact hi161 m hm1 (by omega)))⟩ (by show (g.high + 1 - (m + 1)).toNat < (g.high + 1 - m).toNat; omega))
      · refine exit (hK114 _ _ (genC [(0, (Vp g.pb 0)), (2, (Vi x)), (3, (.bool (plain))), (8, (Vp w6.heap.size 0)), (32, (.slice (some ⟨ob69, 0, none⟩) on70 oc71)), (33, (Vi (((on70 : Nat) : Int)))), (34, (Vi (((i : Nat) : Int))))] ⟨g166, g167, g168, g169, g172, g173, g174, trivial⟩ ?_))
        clear hK114; rintro E ⟨g359, g360, g361, g362, g363, g364, g365, -⟩
        refine reg ?_
        refine s_y (y_add g365 rfl (c := ((i : Nat) : Int) + 1) (by omega) rfl) rfl ?_
        refine s_y (y_move (v := (Vi (((i : Nat) : Int) + 1))) rfl) rfl ?_
        have kc366 : Kp (fun _ => False) w67 w90 := (Kp.then0 (Kp.refl _ _) hk91)
        have kc367 : Kp (fun _ => False) w67 w119 := (Kp.then0 kc366 hk121)
        have kc368 : Kp (fun _ => False) w67 w123 := (Kp.fresh kc367 hk125 fun _ e => nl (nl hk91.size (Nat.le_refl _)) (Nat.le_of_eq e.symm))
        have kc369 : Kp (fun _ => False) w67 w156 := (Kp.then0 kc368 hk157)
        exact s_nil (hK92 (i + 1) _ _ ⟨⟨g359, g360, g361, g362, g363, g364, rfl, trivial⟩, kc369, (show (i + 1) ≤ on70 from (by omega)), (show ∀ j a_ m, j < (i + 1) → (ord g.l a)[j]? = some a_ → g.low ≤ m → m ≤ g.high → ¬ hit held plain x ⟨a_, m⟩ from (by
            intro j a m hj hja hm1 hm2
            rcases Nat.lt_or_ge j i with h | h
            · exact hi94 j a m h hja hm1 hm2
            have e2 : j = i := by omega
            rw [e2, hx118] at hja
            injection hja with hja
            rw [← hja]
            exact hi161 m hm1 (by omega)))⟩ (by show on70 - (i + 1) < on70 - i; omega))
    · refine exit (hK61 _ _ (genC [(8, (Vp w6.heap.size 0))] ⟨g100, trivial⟩ ?_))
      clear hK61; rintro E ⟨g370, -⟩
      refine seq fun K371 hK371 => ?_
      refine reg ?_
      refine s_y (y_build (vs := []) (v := (.agg #[U0, U0, U0, U0, .int .i64 0])) rfl (fun _ => by kernel_rfl)) rfl ?_
      have hb372 := (hk91.get0 (hk68.get0 (hk36.get0 hb11)))
      refine s_e0 (e_storeV (cs' := #[U0, U0, U0, U0, (Vi 0)]) [U0, U0, U0, U0, (Vi 0)] g370 (v := (.agg #[U0, U0, U0, U0, .int .i64 0])) rfl rfl sz34 hb372 rfl rfl rfl) ?_
      rintro _ w373 ⟨hb374, hk375⟩
      have ka376 := (Kp.fresh ka95 hk375 fun _ e => nl (nl hk8.size (Nat.le_refl _)) (Nat.le_of_eq e.symm))
      refine s_y (y_assign (v := (Vi 6)) rfl) rfl ?_
      refine s_nil (hK371 _ _ (genC [(8, (Vp w6.heap.size 0)), (9, (Vi 6))] ⟨g370, rfl, trivial⟩ ?_))
      clear hK371; rintro E ⟨g377, g378, -⟩
      refine ret (hret _ _ [(t4 (⟨(⟨0, 0, 0, 0⟩ : V4), 0⟩ : T4)), (Vi 6)] ⟨⟨_, g377, (rd_agg (vs := [U0, U0, U0, U0, (Vi 0)]) ag34 (On.now hb374) (by kernel_rfl) rfl)⟩, g378, trivial⟩ ?_)
      have hb379 := (hk375.get (hk91.get0 (hk68.get0 hb64)) (Nat.ne_of_lt (nt (nt (lt_of_get hb0) hk8.size) (Nat.le_refl _))))
      have hf380 := (((hf65.kp hk68 id).kp hk91 id).kp hk375 (Nat.ne_of_lt (nt (nt (hl0.lt) hk8.size) (Nat.le_refl _))))
      have hf381 := (((hf66.kp hk68 id).kp hk91 id).kp hk375 (Nat.ne_of_lt (nt (nt (hm0.lt) hk8.size) (Nat.le_refl _))))
      have hx9 : isPort x := by simpa using c44
      refine ⟨none, by simp [tup, takeV, takeE, hx9] <;> rfl, ?_, ⟨hb379, hf380, hf381⟩, ka376⟩
      unfold TakeQ; rw [if_pos hx9]; unfold TakeR; intro j a9 m9 hj
      exact hi94 j a9 m9 (by have := (List.getElem?_eq_some_iff.1 hj).1; omega) hj

structure Right (l : List V4) (low high : Int) : Prop where
  ne : l ≠ []
  len : l.length ≤ 4
  lo : isPort low
  hi : isPort high
  le : low ≤ high
  rng : high - low < 1024
  nd : l.Nodup
/-- a pool that is new -/
structure NewPool (l : List V4) (low high : Int) (w w' : World) (g : PoolG) : Prop where
  l : g.l = l
  low : g.low = low
  high : g.high = high
  ok : PoolOk g
  is : PoolIs g [] w'
  pb : w.heap.size ≤ g.pb
  lb : w.heap.size ≤ g.lb
  mb : w.heap.size ≤ g.mb
  pl : g.pb ≠ g.lb
theorem take_succ_nodup {l : List V4} {i : Nat} {x : V4} (h : (l.take i).Nodup) (hx : l[i]? = some x) (hn : x ∉ l.take i) : (l.take (i + 1)).Nodup := by
  rw [List.take_add_one, hx]
  simp only [Option.toList_some]
  rw [List.nodup_append]
  refine ⟨h, by simp, fun a ha b hb => ?_⟩
  simp at hb; subst hb
  intro e; subst e; exact hn ha
theorem dup_of_take {l : List V4} {i : Nat} {x : V4} (hx : l[i]? = some x) (hm : x ∈ l.take i) : ¬ l.Nodup := by
  intro hn
  have hil := (List.getElem?_eq_some_iff.1 hx).1
  have h2 : (l.take i ++ l.drop i).Nodup := by rw [List.take_append_drop]; exact hn
  rw [List.nodup_append] at h2
  have h3 : x ∈ l.drop i := by rw [List.drop_eq_getElem_cons hil, (List.getElem?_eq_some_iff.1 hx).2]; simp
  exact h2.2.2 x hm x h3 rfl
theorem poolnew_spec {b o n c : Nat} {l : List V4} {low high : Int} {w : World} (hn : n = l.length) (hnc : n ≤ c) (hmax : l.length ≤ 9223372036854775807) (hl : Elts V4.cs 4 w b o l) : Rets Tryd.prog 45 #[(.slice (some ⟨b, o, none⟩) n c), (.int .i64 low), (.int .i64 high)] w fun v w' => ((¬ Right l low high ∧ v = .tuple #[.pointer none, .int .i64 1]) ∨ (Right l low high ∧ ∃ g : PoolG, v = .tuple #[.pointer (some ⟨g.pb, 0, none⟩), .int .i64 0] ∧ NewPool l low high w w' g)) ∧ K0 w w' := by
  refine enter Tryd.func45 rfl Tryd.ntmps45 rfl fun Q hret hend E hE => ?_
  have g1 : E 0 = (.slice (some ⟨b, o, none⟩) n c) := hE 0
  have g2 : E 1 = (Vi low) := hE 1
  have g3 : E 2 = (Vi high) := hE 2
  clear hE
  refine seq fun K4 hK4 => ?_
  refine reg ?_
  refine s_y (y_assign (v := (.pointer none)) rfl) rfl ?_
  refine s_y (y_assign (v := (Vi 0)) rfl) rfl ?_
  refine s_nil (hK4 _ _ (genC [(0, (.slice (some ⟨b, o, none⟩) n c)), (1, (Vi low)), (2, (Vi high))] ⟨g1, g2, g3, trivial⟩ ?_))
  clear hK4; rintro E ⟨g5, g6, g7, -⟩
  refine seq fun K8 hK8 => ?_
  refine seq fun K9 hK9 => ?_
  refine reg ?_
  refine s_y (y_move (v := (.slice (some ⟨b, o, none⟩) n c)) g5) rfl ?_
  refine s_y (y_lenS so28 rfl) rfl ?_
  refine s_y (y_lss rfl rfl) rfl ?_
  refine s_y (y_move (v := (.bool (decide ((((n : Nat) : Int) : Int) < 1)))) rfl) rfl ?_
  by_cases c10 : (((n : Nat) : Int) : Int) < 1
  · refine s_no (.no rfl (c := true) (congrArg Value.bool (decide_eq_true c10)) rfl) rfl ?_
    refine s_no (.no rfl (c := true) (congrArg Value.bool (decide_eq_true c10)) rfl) rfl ?_
    refine s_no (.no rfl (c := true) (congrArg Value.bool (decide_eq_true c10)) rfl) rfl ?_
    refine s_y (y_pick_t (congrArg Value.bool (decide_eq_true c10)) (v := Vt) rfl) rfl ?_
    refine s_y (y_move (v := Vt) rfl) rfl ?_
    refine s_no (.no rfl (c := true) rfl rfl) rfl ?_
    refine s_no (.no rfl (c := true) rfl rfl) rfl ?_
    refine s_no (.no rfl (c := true) rfl rfl) rfl ?_
    refine s_y (y_pick_t rfl (v := Vt) rfl) rfl ?_
    refine s_y (y_move (v := Vt) rfl) rfl ?_
    refine s_no (.no rfl (c := true) rfl rfl) rfl ?_
    refine s_no (.no rfl (c := true) rfl rfl) rfl ?_
    refine s_no (.no rfl (c := true) rfl rfl) rfl ?_
    refine s_y (y_pick_t rfl (v := Vt) rfl) rfl ?_
    refine s_y (y_move (v := Vt) rfl) rfl ?_
    refine s_no (.no rfl (c := true) rfl rfl) rfl ?_
    refine s_no (.no rfl (c := true) rfl rfl) rfl ?_
    refine s_no (.no rfl (c := true) rfl rfl) rfl ?_
    refine s_y (y_pick_t rfl (v := Vt) rfl) rfl ?_
    refine s_y (y_move (v := Vt) rfl) rfl ?_
    refine s_no (.no rfl (c := true) rfl rfl) rfl ?_
    refine s_no (.no rfl (c := true) rfl rfl) rfl ?_
    refine s_no (.no rfl (c := true) rfl rfl) rfl ?_
    refine s_no (.no rfl (c := true) rfl rfl) rfl ?_
    refine s_y (y_pick_t rfl (v := Vt) rfl) rfl ?_
    refine s_nil (hK9 _ _ (genC [(0, (.slice (some ⟨b, o, none⟩) n c)), (1, (Vi low)), (2, (Vi high)), (38, Vt)] ⟨g5, g6, g7, rfl, trivial⟩ ?_))
    clear hK9; rintro E ⟨g11, g12, g13, g14, -⟩
    refine cond_t g14 ?_
    refine seq fun K15 hK15 => ?_
    refine reg ?_
    refine s_y (y_assign (v := (.pointer none)) rfl) rfl ?_
    refine s_y (y_assign (v := (Vi 1)) rfl) rfl ?_
    refine s_nil (hK15 _ _ (genC [(6, (.pointer none)), (7, (Vi 1))] ⟨rfl, rfl, trivial⟩ ?_))
    clear hK15; rintro E ⟨g16, g17, -⟩
    refine ret (hret _ _ [(.pointer none), (Vi 1)] ⟨g16, g17, trivial⟩ ?_)
    refine ⟨.inl ⟨fun hR => ?_, rfl⟩, (Kp.refl _ _)⟩
    have h1 := hR.ne; have h2 := hR.len; have h3 := hR.lo; have h4 := hR.hi; have h5 := hR.le; have h6 := hR.rng; have h7 := List.length_pos_iff.2 h1
    simp only [isPort] at *; omega
  · refine s_gy (.yes rfl (congrArg Value.bool (decide_eq_false c10))) (y_move (v := (.slice (some ⟨b, o, none⟩) n c)) g5) rfl ?_
    refine s_gy (.yes rfl (congrArg Value.bool (decide_eq_false c10))) (y_lenS so28 rfl) rfl ?_
    refine s_gy (.yes rfl (congrArg Value.bool (decide_eq_false c10))) (y_gtr rfl rfl) rfl ?_
    refine s_y (y_pick_f (congrArg Value.bool (decide_eq_false c10)) (v := (.bool (decide ((4 : Int) < ((n : Nat) : Int))))) rfl) rfl ?_
    refine s_y (y_move (v := (.bool (decide ((4 : Int) < ((n : Nat) : Int))))) rfl) rfl ?_
    by_cases c18 : (4 : Int) < ((n : Nat) : Int)
    · refine s_no (.no rfl (c := true) (congrArg Value.bool (decide_eq_true c18)) rfl) rfl ?_
      refine s_no (.no rfl (c := true) (congrArg Value.bool (decide_eq_true c18)) rfl) rfl ?_
      refine s_no (.no rfl (c := true) (congrArg Value.bool (decide_eq_true c18)) rfl) rfl ?_
      refine s_y (y_pick_t (congrArg Value.bool (decide_eq_true c18)) (v := Vt) rfl) rfl ?_
      refine s_y (y_move (v := Vt) rfl) rfl ?_
      refine s_no (.no rfl (c := true) rfl rfl) rfl ?_
      refine s_no (.no rfl (c := true) rfl rfl) rfl ?_
      refine s_no (.no rfl (c := true) rfl rfl) rfl ?_
      refine s_y (y_pick_t rfl (v := Vt) rfl) rfl ?_
      refine s_y (y_move (v := Vt) rfl) rfl ?_
      refine s_no (.no rfl (c := true) rfl rfl) rfl ?_
      refine s_no (.no rfl (c := true) rfl rfl) rfl ?_
      refine s_no (.no rfl (c := true) rfl rfl) rfl ?_
      refine s_y (y_pick_t rfl (v := Vt) rfl) rfl ?_
      refine s_y (y_move (v := Vt) rfl) rfl ?_
      refine s_no (.no rfl (c := true) rfl rfl) rfl ?_
      refine s_no (.no rfl (c := true) rfl rfl) rfl ?_
      refine s_no (.no rfl (c := true) rfl rfl) rfl ?_
      refine s_no (.no rfl (c := true) rfl rfl) rfl ?_
      refine s_y (y_pick_t rfl (v := Vt) rfl) rfl ?_
      refine s_nil (hK9 _ _ (genC [(0, (.slice (some ⟨b, o, none⟩) n c)), (1, (Vi low)), (2, (Vi high)), (38, Vt)] ⟨g5, g6, g7, rfl, trivial⟩ ?_))
      clear hK9; rintro E ⟨g19, g20, g21, g22, -⟩
      refine cond_t g22 ?_
      refine seq fun K23 hK23 => ?_
      refine reg ?_
      refine s_y (y_assign (v := (.pointer none)) rfl) rfl ?_
      refine s_y (y_assign (v := (Vi 1)) rfl) rfl ?_
      refine s_nil (hK23 _ _ (genC [(6, (.pointer none)), (7, (Vi 1))] ⟨rfl, rfl, trivial⟩ ?_))
      clear hK23; rintro E ⟨g24, g25, -⟩
      refine ret (hret _ _ [(.pointer none), (Vi 1)] ⟨g24, g25, trivial⟩ ?_)
      refine ⟨.inl ⟨fun hR => ?_, rfl⟩, (Kp.refl _ _)⟩
      have h1 := hR.ne; have h2 := hR.len; have h3 := hR.lo; have h4 := hR.hi; have h5 := hR.le; have h6 := hR.rng; have h7 := List.length_pos_iff.2 h1
      simp only [isPort] at *; omega
    · refine s_gy (.yes rfl (congrArg Value.bool (decide_eq_false c18))) (y_move (v := (Vi low)) g6) rfl ?_
      refine s_ge (.yes rfl (congrArg Value.bool (decide_eq_false c18))) (e_call ca79 (args := [(Vi low)]) rfl (port_spec low _)) rfl ?_
      rintro _ w26 ⟨rfl, hk27⟩
      have ka28 : Kp (fun _ => False) w w26 := (Kp.then0 (Kp.refl _ _) hk27)
      refine s_gy (.yes rfl (congrArg Value.bool (decide_eq_false c18))) (y_notd rfl) rfl ?_
      refine s_y (y_pick_f (congrArg Value.bool (decide_eq_false c18)) (v := (.bool (decide (¬ (isPort low))))) rfl) rfl ?_
      refine s_y (y_move (v := (.bool (decide (¬ (isPort low))))) rfl) rfl ?_
      by_cases c29 : ¬ (isPort low)
      · refine s_no (.no rfl (c := true) (congrArg Value.bool (decide_eq_true c29)) rfl) rfl ?_
        refine s_no (.no rfl (c := true) (congrArg Value.bool (decide_eq_true c29)) rfl) rfl ?_
        refine s_no (.no rfl (c := true) (congrArg Value.bool (decide_eq_true c29)) rfl) rfl ?_
        refine s_y (y_pick_t (congrArg Value.bool (decide_eq_true c29)) (v := Vt) rfl) rfl ?_
        refine s_y (y_move (v := Vt) rfl) rfl ?_
        refine s_no (.no rfl (c := true) rfl rfl) rfl ?_
        refine s_no (.no rfl (c := true) rfl rfl) rfl ?_
        refine s_no (.no rfl (c := true) rfl rfl) rfl ?_
        refine s_y (y_pick_t rfl (v := Vt) rfl) rfl ?_
        refine s_y (y_move (v := Vt) rfl) rfl ?_
        refine s_no (.no rfl (c := true) rfl rfl) rfl ?_
        refine s_no (.no rfl (c := true) rfl rfl) rfl ?_
        refine s_no (.no rfl (c := true) rfl rfl) rfl ?_
        refine s_no (.no rfl (c := true) rfl rfl) rfl ?_
        refine s_y (y_pick_t rfl (v := Vt) rfl) rfl ?_
        refine s_nil (hK9 _ _ (genC [(0, (.slice (some ⟨b, o, none⟩) n c)), (1, (Vi low)), (2, (Vi high)), (38, Vt)] ⟨g5, g6, g7, rfl, trivial⟩ ?_))
        clear hK9; rintro E ⟨g30, g31, g32, g33, -⟩
        refine cond_t g33 ?_
        refine seq fun K34 hK34 => ?_
        refine reg ?_
        refine s_y (y_assign (v := (.pointer none)) rfl) rfl ?_
        refine s_y (y_assign (v := (Vi 1)) rfl) rfl ?_
        refine s_nil (hK34 _ _ (genC [(6, (.pointer none)), (7, (Vi 1))] ⟨rfl, rfl, trivial⟩ ?_))
        clear hK34; rintro E ⟨g35, g36, -⟩
        refine ret (hret _ _ [(.pointer none), (Vi 1)] ⟨g35, g36, trivial⟩ ?_)
        refine ⟨.inl ⟨fun hR => ?_, rfl⟩, ka28⟩
        have h1 := hR.ne; have h2 := hR.len; have h3 := hR.lo; have h4 := hR.hi; have h5 := hR.le; have h6 := hR.rng; have h7 := List.length_pos_iff.2 h1
        simp only [isPort] at *; omega
      · refine s_gy (.yes rfl (congrArg Value.bool (decide_eq_false c29))) (y_move (v := (Vi high)) g7) rfl ?_
        refine s_ge (.yes rfl (congrArg Value.bool (decide_eq_false c29))) (e_call ca79 (args := [(Vi high)]) rfl (port_spec high _)) rfl ?_
        rintro _ w37 ⟨rfl, hk38⟩
        have ka39 := (Kp.then0 ka28 hk38)
        refine s_gy (.yes rfl (congrArg Value.bool (decide_eq_false c29))) (y_notd rfl) rfl ?_
        refine s_y (y_pick_f (congrArg Value.bool (decide_eq_false c29)) (v := (.bool (decide (¬ (isPort high))))) rfl) rfl ?_
        refine s_y (y_move (v := (.bool (decide (¬ (isPort high))))) rfl) rfl ?_
        by_cases c40 : ¬ (isPort high)
        · refine s_no (.no rfl (c := true) (congrArg Value.bool (decide_eq_true c40)) rfl) rfl ?_
          refine s_no (.no rfl (c := true) (congrArg Value.bool (decide_eq_true c40)) rfl) rfl ?_
          refine s_no (.no rfl (c := true) (congrArg Value.bool (decide_eq_true c40)) rfl) rfl ?_
          refine s_y (y_pick_t (congrArg Value.bool (decide_eq_true c40)) (v := Vt) rfl) rfl ?_
          refine s_y (y_move (v := Vt) rfl) rfl ?_
          refine s_no (.no rfl (c := true) rfl rfl) rfl ?_
          refine s_no (.no rfl (c := true) rfl rfl) rfl ?_
          refine s_no (.no rfl (c := true) rfl rfl) rfl ?_
          refine s_no (.no rfl (c := true) rfl rfl) rfl ?_
          refine s_y (y_pick_t rfl (v := Vt) rfl) rfl ?_
          refine s_nil (hK9 _ _ (genC [(0, (.slice (some ⟨b, o, none⟩) n c)), (1, (Vi low)), (2, (Vi high)), (38, Vt)] ⟨g5, g6, g7, rfl, trivial⟩ ?_))
          clear hK9; rintro E ⟨g41, g42, g43, g44, -⟩
          refine cond_t g44 ?_
          refine seq fun K45 hK45 => ?_
          refine reg ?_
          refine s_y (y_assign (v := (.pointer none)) rfl) rfl ?_
          refine s_y (y_assign (v := (Vi 1)) rfl) rfl ?_
          refine s_nil (hK45 _ _ (genC [(6, (.pointer none)), (7, (Vi 1))] ⟨rfl, rfl, trivial⟩ ?_))
          clear hK45; rintro E ⟨g46, g47, -⟩
          refine ret (hret _ _ [(.pointer none), (Vi 1)] ⟨g46, g47, trivial⟩ ?_)
          refine ⟨.inl ⟨fun hR => ?_, rfl⟩, ka39⟩
          have h1 := hR.ne; have h2 := hR.len; have h3 := hR.lo; have h4 := hR.hi; have h5 := hR.le; have h6 := hR.rng; have h7 := List.length_pos_iff.2 h1
          simp only [isPort] at *; omega
        · refine s_gy (.yes rfl (congrArg Value.bool (decide_eq_false c40))) (y_move (v := (Vi high)) g7) rfl ?_
          refine s_gy (.yes rfl (congrArg Value.bool (decide_eq_false c40))) (y_move (v := (Vi low)) g6) rfl ?_
          refine s_gy (.yes rfl (congrArg Value.bool (decide_eq_false c40))) (y_lss rfl rfl) rfl ?_
          refine s_y (y_pick_f (congrArg Value.bool (decide_eq_false c40)) (v := (.bool (decide ((high : Int) < low)))) rfl) rfl ?_
          refine s_y (y_move (v := (.bool (decide ((high : Int) < low)))) rfl) rfl ?_
          by_cases c48 : (high : Int) < low
          · refine s_no (.no rfl (c := true) (congrArg Value.bool (decide_eq_true c48)) rfl) rfl ?_
            refine s_no (.no rfl (c := true) (congrArg Value.bool (decide_eq_true c48)) rfl) rfl ?_
            refine s_no (.no rfl (c := true) (congrArg Value.bool (decide_eq_true c48)) rfl) rfl ?_
            refine s_no (.no rfl (c := true) (congrArg Value.bool (decide_eq_true c48)) rfl) rfl ?_
            refine s_y (y_pick_t (congrArg Value.bool (decide_eq_true c48)) (v := Vt) rfl) rfl ?_
            refine s_nil (hK9 _ _ (genC [(0, (.slice (some ⟨b, o, none⟩) n c)), (1, (Vi low)), (2, (Vi high)), (38, Vt)] ⟨g5, g6, g7, rfl, trivial⟩ ?_))
            clear hK9; rintro E ⟨g49, g50, g51, g52, -⟩
            refine cond_t g52 ?_
            refine seq fun K53 hK53 => ?_
            refine reg ?_
            refine s_y (y_assign (v := (.pointer none)) rfl) rfl ?_
            refine s_y (y_assign (v := (Vi 1)) rfl) rfl ?_
            refine s_nil (hK53 _ _ (genC [(6, (.pointer none)), (7, (Vi 1))] ⟨rfl, rfl, trivial⟩ ?_))
            clear hK53; rintro E ⟨g54, g55, -⟩
            refine ret (hret _ _ [(.pointer none), (Vi 1)] ⟨g54, g55, trivial⟩ ?_)
            refine ⟨.inl ⟨fun hR => ?_, rfl⟩, ka39⟩
            have h1 := hR.ne; have h2 := hR.len; have h3 := hR.lo; have h4 := hR.hi; have h5 := hR.le; have h6 := hR.rng; have h7 := List.length_pos_iff.2 h1
            simp only [isPort] at *; omega
          · refine s_gy (.yes rfl (congrArg Value.bool (decide_eq_false c48))) (y_move (v := (Vi high)) g7) rfl ?_
            refine s_gy (.yes rfl (congrArg Value.bool (decide_eq_false c48))) (y_move (v := (Vi low)) g6) rfl ?_
            refine s_gy (.yes rfl (congrArg Value.bool (decide_eq_false c48))) (y_sub rfl rfl (c := high - low) (by grind [isPort]) rfl) rfl ?_
            refine s_gy (.yes rfl (congrArg Value.bool (decide_eq_false c48))) (y_geq rfl rfl) rfl ?_
            refine s_y (y_pick_f (congrArg Value.bool (decide_eq_false c48)) (v := (.bool (decide ((1024 : Int) ≤ high - low)))) rfl) rfl ?_
            refine s_nil (hK9 _ _ (genC [(0, (.slice (some ⟨b, o, none⟩) n c)), (1, (Vi low)), (2, (Vi high)), (38, (.bool (decide ((1024 : Int) ≤ high - low))))] ⟨g5, g6, g7, rfl, trivial⟩ ?_))
            clear hK9; rintro E ⟨g56, g57, g58, g59, -⟩
            refine cond_d g59 (fun c60 => ?_) (fun c60 => ?_)
            · refine seq fun K61 hK61 => ?_
              refine reg ?_
              refine s_y (y_assign (v := (.pointer none)) rfl) rfl ?_
              refine s_y (y_assign (v := (Vi 1)) rfl) rfl ?_
              refine s_nil (hK61 _ _ (genC [(6, (.pointer none)), (7, (Vi 1))] ⟨rfl, rfl, trivial⟩ ?_))
              clear hK61; rintro E ⟨g62, g63, -⟩
              refine ret (hret _ _ [(.pointer none), (Vi 1)] ⟨g62, g63, trivial⟩ ?_)
              refine ⟨.inl ⟨fun hR => ?_, rfl⟩, ka39⟩
              have h1 := hR.ne; have h2 := hR.len; have h3 := hR.lo; have h4 := hR.hi; have h5 := hR.le; have h6 := hR.rng; have h7 := List.length_pos_iff.2 h1
              simp only [isPort] at *; omega
            · refine skip (hK8 _ _ (genC [(0, (.slice (some ⟨b, o, none⟩) n c)), (1, (Vi low)), (2, (Vi high))] ⟨g56, g57, g58, trivial⟩ ?_))
              clear hK8; rintro E ⟨g64, g65, g66, -⟩
              refine seq fun K67 hK67 => ?_
              refine seq fun K68 hK68 => ?_
              refine reg ?_
              refine s_y (y_move (v := (.slice (some ⟨b, o, none⟩) n c)) g64) rfl ?_
              refine s_y (y_lenS so28 rfl) rfl ?_
              refine s_y (y_move (v := (Vi 0)) rfl) rfl ?_
              refine s_nil (hK68 _ _ (genC [(0, (.slice (some ⟨b, o, none⟩) n c)), (1, (Vi low)), (2, (Vi high)), (39, (.slice (some ⟨b, o, none⟩) n c)), (40, (Vi (((n : Nat) : Int)))), (41, (Vi 0))] ⟨g64, g65, g66, rfl, rfl, rfl, trivial⟩ ?_))
              clear hK68; rintro E ⟨g69, g70, g71, g72, g73, g74, -⟩
              refine block ?_
              refine loopG (X := Nat) (fun q_ E w_ => Has E [(0, (.slice (some ⟨b, o, none⟩) n c)), (1, (Vi low)), (2, (Vi high)), (39, (.slice (some ⟨b, o, none⟩) n c)), (40, (Vi (((n : Nat) : Int)))), (41, (Vi (((q_ : Nat) : Int))))] ∧ Kp (fun _ => False) w37 w_ ∧ (q_ ≤ n) ∧ ((l.take q_).Nodup)) (fun q_ => n - q_) 0 ⟨⟨g69, g70, g71, g72, g73, g74, trivial⟩, Kp.refl _ _, (show 0 ≤ n from (by omega)), (show (l.take 0).Nodup from (by simp))⟩ ?_
              rintro i E w81 ⟨⟨g75, g76, g77, g78, g79, g80, -⟩, hk82, hi84, hi85⟩ K83 hK83
              replace hi84 : i ≤ n := hi84
              replace hi85 : (l.take i).Nodup := hi85
              have ka86 := (Kp.then0 ka39 hk82)
              refine seq fun K87 hK87 => ?_
              refine reg ?_
              refine s_y (y_lss g80 g79) rfl ?_
              refine s_nil (hK87 _ _ (genC [(0, (.slice (some ⟨b, o, none⟩) n c)), (1, (Vi low)), (2, (Vi high)), (39, (.slice (some ⟨b, o, none⟩) n c)), (40, (Vi (((n : Nat) : Int)))), (41, (Vi (((i : Nat) : Int)))), (42, (.bool (decide ((((i : Nat) : Int) : Int) < ((n : Nat) : Int)))))] ⟨g75, g76, g77, g78, g79, g80, rfl, trivial⟩ ?_))
              clear hK87; rintro E ⟨g88, g89, g90, g91, g92, g93, g94, -⟩
              refine seq fun K95 hK95 => ?_
              refine cond_d g94 (fun c96 => ?_) (fun c96 => ?_)
              · refine skip (hK95 _ _ (genC [(0, (.slice (some ⟨b, o, none⟩) n c)), (1, (Vi low)), (2, (Vi high)), (39, (.slice (some ⟨b, o, none⟩) n c)), (40, (Vi (((n : Nat) : Int)))), (41, (Vi (((i : Nat) : Int))))] ⟨g88, g89, g90, g91, g92, g93, trivial⟩ ?_))
                clear hK95; rintro E ⟨g97, g98, g99, g100, g101, g102, -⟩
                refine seq fun K103 hK103 => ?_
                refine block ?_
                refine seq fun K104 hK104 => ?_
                refine reg ?_
                refine s_y (y_move (v := (Vi (((i : Nat) : Int)))) g102) rfl ?_
                refine s_y (y_idx so28 sz27 g100 (i := i) g102 (by omega)) rfl ?_
                have hf105 := (((hl.kp hk27 id).kp hk38 id).kp hk82 id)
                obtain ⟨x106, hx107⟩ : ∃ x, l[i]? = some x := ⟨_, List.getElem?_eq_getElem (by omega)⟩
                refine s_y (y_load (v := (.agg #[u8 x106.a, u8 x106.b, u8 x106.c, u8 x106.d])) rfl (rd_el ag27 (EltsOn.now hf105) hx107 (vs := [(u8 x106.a), (u8 x106.b), (u8 x106.c), (u8 x106.d)]) rfl)) rfl ?_
                refine s_e (e_alloc ze27) rfl ?_
                rintro _ w108 ⟨rfl, hb109, hk110⟩
                have ka111 := (Kp.then0 ka86 hk110)
                refine s_y (y_assign (v := (Vi (((i : Nat) : Int)))) rfl) rfl ?_
                refine s_e0 (e_storeV (cs' := #[(u8 x106.a), (u8 x106.b), (u8 x106.c), (u8 x106.d)]) [(u8 x106.a), (u8 x106.b), (u8 x106.c), (u8 x106.d)] rfl (v := (.agg #[u8 x106.a, u8 x106.b, u8 x106.c, u8 x106.d])) rfl rfl sz27 hb109 rfl rfl rfl) ?_
                rintro _ w112 ⟨hb113, hk114⟩
                have hz116 := (nl (nl hk27.size hk38.size) hk82.size)
                have ka115 := (Kp.fresh ka111 hk114 fun _ e => nl (nl hz116 (Nat.le_refl _)) (Nat.le_of_eq e.symm))
                refine s_nil (hK104 _ _ (genC [(0, (.slice (some ⟨b, o, none⟩) n c)), (1, (Vi low)), (2, (Vi high)), (8, (Vi (((i : Nat) : Int)))), (9, (Vp w81.heap.size 0)), (39, (.slice (some ⟨b, o, none⟩) n c)), (40, (Vi (((n : Nat) : Int)))), (41, (Vi (((i : Nat) : Int))))] ⟨g97, g98, g99, rfl, rfl, g100, g101, g102, trivial⟩ ?_))
                clear hK104; rintro E ⟨g117, g118, g119, g120, g121, g122, g123, g124, -⟩
                refine seq fun K125 hK125 => ?_
                refine regD (fun _ => False) (.take 0 (.take 1 (.take 2 (.take 3 (.one 4 .done))))) mixed (by kernel_rfl) fun w126 hh127 hk128 => ?_
                have ka129 := (Kp.then0 ka115 hk128)
                refine o_y rfl (y_move (v := (.slice (some ⟨b, o, none⟩) n c)) g117) ?_
                refine o_y rfl (y_move (v := (Vi (((i : Nat) : Int)))) g120) ?_
                refine o_y rfl (y_slice0 so28 sz27 rfl (h := i) rfl (by omega)) ?_
                refine o_y rfl (y_load (v := (v4 x106)) g121 (rd_agg (vs := [(u8 x106.a), (u8 x106.b), (u8 x106.c), (u8 x106.d)]) ag27 (On.kp (hk128.get0 hb113) id) (by kernel_rfl) rfl)) ?_
                refine o_one ?_
                have hf130 := (((hf105.kp hk110 id).kp hk114 (Nat.ne_of_lt (nt (hf105.lt) (Nat.le_refl _)))).kp hk128 id)
                have hsub9 := Elts.sub hf130 0 i; rw [Nat.zero_mul, Nat.add_zero, List.drop_zero] at hsub9
                refine c_e rfl (e_call ca81 (args := [(.slice (some ⟨b, o, none⟩) i c), (v4 x106)]) rfl (contains4_spec (n := i) x106 (by simp; omega) (by simp; omega) hsub9)) ?_
                rintro _ w131 ⟨rfl, hk132⟩
                have ka133 := (Kp.then0 ka129 hk132)
                have ks134 : Kp (fun _ => False) w126 w131 := (Kp.then0 (Kp.refl _ _) hk132)
                refine ⟨ks134, ?_⟩
                refine o_done (hK125 _ _ (genC [(0, (.slice (some ⟨b, o, none⟩) n c)), (1, (Vi low)), (2, (Vi high)), (39, (.slice (some ⟨b, o, none⟩) n c)), (40, (Vi (((n : Nat) : Int)))), (41, (Vi (((i : Nat) : Int)))), (50, (.bool (decide (x106 ∈ l.take i))))] ⟨g117, g118, g119, g122, g123, g124, rfl, trivial⟩ ?_))
                clear hK125; rintro E ⟨g135, g136, g137, g138, g139, g140, g141, -⟩
                refine cond_d g141 (fun c142 => ?_) (fun c142 => ?_)
                · refine seq fun K143 hK143 => ?_
                  refine reg ?_
                  refine s_y (y_assign (v := (.pointer none)) rfl) rfl ?_
                  refine s_y (y_assign (v := (Vi 1)) rfl) rfl ?_
                  refine s_nil (hK143 _ _ (genC [(6, (.pointer none)), (7, (Vi 1))] ⟨rfl, rfl, trivial⟩ ?_))
                  clear hK143; rintro E ⟨g144, g145, -⟩
                  refine ret (hret _ _ [(.pointer none), (Vi 1)] ⟨g144, g145, trivial⟩ ?_)
                  exact ⟨.inl ⟨fun hR => dup_of_take hx107 c142 hR.nd, rfl⟩, ka133⟩
                · refine skip (hK103 _ _ (genC [(0, (.slice (some ⟨b, o, none⟩) n c)), (1, (Vi low)), (2, (Vi high)), (39, (.slice (some ⟨b, o, none⟩) n c)), (40, (Vi (((n : Nat) : Int)))), (41, (Vi (((i : Nat) : Int))))] ⟨g135, g136, g137, g138, g139, g140, trivial⟩ ?_))
                  clear hK103; rintro E ⟨g146, g147, g148, g149, g150, g151, -⟩
                  refine reg ?_
                  refine s_y (y_add g151 rfl (c := ((i : Nat) : Int) + 1) (by omega) rfl) rfl ?_
                  refine s_y (y_move (v := (Vi (((i : Nat) : Int) + 1))) rfl) rfl ?_
                  have kc152 : Kp (fun _ => False) w37 w81 := (Kp.then0 (Kp.refl _ _) hk82)
                  have kc153 : Kp (fun _ => False) w37 w108 := (Kp.then0 kc152 hk110)
                  have kc154 : Kp (fun _ => False) w37 w112 := (Kp.fresh kc153 hk114 fun _ e => nl (nl hk82.size (Nat.le_refl _)) (Nat.le_of_eq e.symm))
                  have kc155 : Kp (fun _ => False) w37 w126 := (Kp.then0 kc154 hk128)
                  have kc156 : Kp (fun _ => False) w37 w131 := (Kp.then0 kc155 hk132)
                  exact s_nil (hK83 (i + 1) _ _ ⟨⟨g146, g147, g148, g149, g150, rfl, trivial⟩, kc156, (show (i + 1) ≤ n from (by omega)), (show (l.take (i + 1)).Nodup from (take_succ_nodup hi85 hx107 c142))⟩ (by show n - (i + 1) < n - i; omega))
              · refine exit (hK67 _ _ (genC [(0, (.slice (some ⟨b, o, none⟩) n c)), (1, (Vi low)), (2, (Vi high))] ⟨g88, g89, g90, trivial⟩ ?_))
                clear hK67; rintro E ⟨g157, g158, g159, -⟩
                refine seq fun K160 hK160 => ?_
                refine reg ?_
                refine s_y (y_move (v := (.slice (some ⟨b, o, none⟩) n c)) g157) rfl ?_
                have hf161 := (((hl.kp hk27 id).kp hk38 id).kp hk82 id)
                refine s_e (e_call ca82 (args := [(.slice (some ⟨b, o, none⟩) n c)]) rfl (clone4_spec (by exact hn) (by exact (by intro e; rw [e, List.length_nil] at hn; omega)) (by omega) hf161)) rfl ?_
                rintro _ w162 ⟨⟨cb164, cap165, rfl, hge166, hC167⟩, hk163⟩
                have ka168 := (Kp.then0 ka86 hk163)
                have hclcb164 := OwnC.le hC167; have hcmcb164 : cap165 ≤ 9223372036854775807 := OwnC.capmax hC167
                refine s_y (y_move (v := (Vi low)) g158) rfl ?_
                refine s_y (y_move (v := (Vi high)) g159) rfl ?_
                refine s_e e_makeMap rfl ?_
                rintro _ w169 ⟨rfl, hm170, hk171⟩
                have ka172 := (Kp.then0 ka168 hk171)
                have hmm9 : MapAt t4 (fun b : Bool => Value.bool b) (fun x : T4 => inI x.port) w169 w162.heap.size ([] : List (T4 × Bool)) := MapAt.new hm170
                refine s_y (y_build (vs := [(0, (.slice (some ⟨cb164, 0, none⟩) n cap165)), (1, (Vi low)), (2, (Vi high)), (3, (.map (some w162.heap.size)))]) (v := (.agg #[.slice (some ⟨cb164, 0, none⟩) n cap165, .int .i64 low, .int .i64 high, .map (some w162.heap.size)])) rfl (fun _ => by kernel_rfl)) rfl ?_
                refine s_e (e_box (v := (.agg #[.slice (some ⟨cb164, 0, none⟩) n cap165, .int .i64 low, .int .i64 high, .map (some w162.heap.size)])) rfl) rfl ?_
                rintro _ w173 ⟨rfl, hb174, hk175⟩
                have ka176 := (Kp.then0 ka172 hk175)
                refine s_y (y_assign (v := (Vp w169.heap.size 0)) rfl) rfl ?_
                refine s_y (y_assign (v := (Vi 0)) rfl) rfl ?_
                refine s_nil (hK160 _ _ (genC [(6, (Vp w169.heap.size 0)), (7, (Vi 0))] ⟨rfl, rfl, trivial⟩ ?_))
                clear hK160; rintro E ⟨g177, g178, -⟩
                refine ret (hret _ _ [(Vp w169.heap.size 0), (Vi 0)] ⟨g177, g178, trivial⟩ ?_)
                have hf179 := ((hC167.kp hk171 id).kp hk175 id)
                have hf180 := (hmm9.kp hk175 id)
                have hne9 : l ≠ [] := (by intro e; rw [e, List.length_nil] at hn; omega)
                have hnd9 : l.Nodup := by have h := hi85; rwa [List.take_of_length_le (by omega)] at h
                have hR : Right l low high := ⟨hne9, by omega, by simp_all, by simp_all, by omega, by omega, hnd9⟩
                have hlo9 := hR.lo; have hhi9 := hR.hi; unfold isPort at hlo9 hhi9
                have hz181 := (nl (nl (nl (nl hk27.size hk38.size) hk82.size) hk163.size) hk171.size)
                have hz182 := (nl (nl hk27.size hk38.size) hk82.size)
                exact ⟨.inr ⟨hR, ⟨w169.heap.size, cb164, w162.heap.size, cap165, l, low, high⟩, rfl, rfl, rfl, rfl, ⟨hne9, hnd9, by show l.length ≤ 4; omega, by show l.length ≤ cap165; omega, by show 0 ≤ low; omega, by show high ≤ 65535; omega, hR.le⟩, ⟨hn ▸ hb174, (OwnC.elts hf179), hf180⟩, (nl hz181 (Nat.le_refl _)), (nl hz182 hge166), (nl (nl hz182 hk163.size) (Nat.le_refl _)), (Nat.ne_of_gt (nt (nt (hC167.lt) hk171.size) (Nat.le_refl _)))⟩, ka176⟩

end Go.Proofs.YtdcnblafepgheaaDoor
