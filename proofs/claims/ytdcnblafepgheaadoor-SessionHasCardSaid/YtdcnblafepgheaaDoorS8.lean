/-
  Written by a program (wip/walks).
-/
import Derived.Test.YtdcnblafepgheaaDoorS7
namespace Go.Proofs.YtdcnblafepgheaaDoor
open Go Go.V
set_option maxRecDepth 100000
structure SesG where
  (tb mb om : Nat) (x : IxG) (q : QG) (max : Int)
structure SesS where
  (last : Int) (l : List (Session × Nat)) (qs : QS) (o : List (Int × Nat × List (Int × Bool)))
def zeroS : Session := ⟨0, 0, ⟨⟨0, 0, 0, 0⟩, 0⟩, 0, 0⟩
def keyM (l : List (Session × Nat)) : ByteArray → Option Int := fun k => (l.find? fun q => decide (k4 q.1.binding q.1.peer = k)).map (·.1.id)
def lookS (l : List (Session × Nat)) (b : Int) (p : T4) : Option (Session × Nat) := l.find? fun q => decide (q.1.binding = b ∧ q.1.peer = p)
def sidl (l : List (Session × Nat)) : List (Int × Nat) := l.map fun q => (q.1.id, q.2)
def oml (o : List (Int × Nat × List (Int × Bool))) : List (Int × Nat) := o.map fun e => (e.1, e.2.1)
def ofl (o : List (Int × Nat × List (Int × Bool))) (b : Int) : List Int := match o.find? (fun e => decide (e.1 = b)) with | some e => e.2.2.map (·.1) | none => []
abbrev BMap (w : World) (b : Nat) (l : List (Int × Bool)) : Prop := MapAt (fun n : Int => .int .i64 n) (fun x : Bool => Value.bool x) inI w b l
abbrev SesG.fx (g : SesG) : List Nat := [g.tb, g.mb, g.om, g.x.ib, g.x.sb]
/-- all that is a table's -/
def sfp (g : SesG) (st : SesS) : List Nat := g.fx ++ (qfp g.q st.qs ++ (st.l.map (·.2) ++ st.o.map (·.2.1)))
structure SesIs (g : SesG) (st : SesS) (w : World) : Prop where
  blk : Blk w g.tb #[.int .i64 g.max, .int .i64 st.last, .map (some g.mb), .pointer (some ⟨g.x.ib, 0, none⟩), .pointer (some ⟨g.q.qb, 0, none⟩), .map (some g.om)] 115
  map : MapAt (fun n : Int => .int .i64 n) (fun p : Nat => Value.pointer (some ⟨p, 0, none⟩)) inI w g.mb (sidl st.l)
  box : ∀ p ∈ st.l, Blk w p.2 p.1.cs.toArray 59
  ix : IxIs g.x (keyM st.l) st.l.length w
  q : QIs g.q st.qs w
  omap : MapAt (fun n : Int => .int .i64 n) (fun b : Nat => Value.map (some b)) inI w g.om (oml st.o)
  oin : ∀ e ∈ st.o, BMap w e.2.1 e.2.2
  ofs : ∀ b, (ofl st.o b).Perm ((st.l.filter fun p => decide (p.1.binding = b)).map (·.1.id))
  one : ∀ e ∈ st.o, e.2.2 ≠ []
  due : st.qs.l.Perm (st.l.map fun p => (⟨p.1.id, p.1.due⟩ : Thing))
  tb : Tb w
  nd : (sfp g st).Nodup
  tbn : 0 ∉ sfp g st
structure SesOk (g : SesG) : Prop where
  x : IxOk g.x
  n : g.x.n = g.max
  mx : g.max ≤ 65536
section
variable {g : SesG} {st : SesS} {w : World}
theorem sfp_fx {b : Nat} (h : b ∈ g.fx) : b ∈ sfp g st := List.mem_append_left _ h
theorem sfp_q {b : Nat} (h : b ∈ qfp g.q st.qs) : b ∈ sfp g st := List.mem_append_right _ (List.mem_append_left _ h)
theorem sfp_box {p : Session × Nat} (h : p ∈ st.l) : p.2 ∈ sfp g st := List.mem_append_right _ (List.mem_append_right _ (List.mem_append_left _ (List.mem_map.2 ⟨p, h, rfl⟩)))
theorem sfp_in {e : Int × Nat × List (Int × Bool)} (h : e ∈ st.o) : e.2.1 ∈ sfp g st := List.mem_append_right _ (List.mem_append_right _ (List.mem_append_right _ (List.mem_map.2 ⟨e, h, rfl⟩)))
theorem sfp_cases {b : Nat} (h : b ∈ sfp g st) : b ∈ g.fx ∨ b ∈ qfp g.q st.qs ∨ (∃ p ∈ st.l, p.2 = b) ∨ ∃ e ∈ st.o, e.2.1 = b := by
  rcases List.mem_append.1 h with h | h
  · exact .inl h
  · rcases List.mem_append.1 h with h | h
    · exact .inr (.inl h)
    · rcases List.mem_append.1 h with h | h
      · obtain ⟨p, hp, e⟩ := List.mem_map.1 h; exact .inr (.inr (.inl ⟨p, hp, e⟩))
      · obtain ⟨p, hp, e⟩ := List.mem_map.1 h; exact .inr (.inr (.inr ⟨p, hp, e⟩))
theorem SesIs.kp {w' : World} (h : SesIs g st w) {F : Nat → Prop} (k : Kp F w w') (hF : ∀ b ∈ sfp g st, ¬ F b) (hT : ¬ F 0) : SesIs g st w' := by
  have hx : ∀ b ∈ g.fx, ¬ F b := fun b hb => hF b (sfp_fx hb)
  simp only [SesG.fx, List.mem_cons, List.not_mem_nil, or_false, forall_eq_or_imp, forall_eq] at hx
  obtain ⟨h1, h2, h3, h4, h5⟩ := hx
  exact ⟨k.get h.blk h1, h.map.kp k h2, fun p hp => k.get (h.box p hp) (hF _ (sfp_box hp)), h.ix.kp k h4 h5, h.q.kp k (fun b hb => hF b (sfp_q hb)), h.omap.kp k h3, fun e he => (h.oin e he).kp k (hF _ (sfp_in he)), h.ofs, h.one, h.due, h.tb.kp k hT, h.nd, h.tbn⟩
theorem SesIs.k0 {w' : World} (h : SesIs g st w) (k : K0 w w') : SesIs g st w' := h.kp k (fun _ _ => id) id
theorem SesIs.qlt (h : SesIs g st w) : ∀ b ∈ qfp g.q st.qs, b < w.heap.size := h.q.lt
theorem SesIs.lt (h : SesIs g st w) : ∀ b ∈ sfp g st, b < w.heap.size := by
  intro b hb
  rcases sfp_cases hb with hb | hb | ⟨p, hp, rfl⟩ | ⟨e, he, rfl⟩
  · simp only [SesG.fx, List.mem_cons, List.not_mem_nil, or_false] at hb
    rcases hb with rfl | rfl | rfl | rfl | rfl
    · exact lt_of_get h.blk
    · exact h.map.lt
    · exact h.omap.lt
    · exact h.ix.lt.1
    · exact h.ix.lt.2
  · exact h.q.lt b hb
  · exact lt_of_get (h.box p hp)
  · exact (h.oin e he).lt
theorem fx_ne (h : (sfp g st).Nodup) {i j a b : Nat} (hij : i ≠ j) (hi : g.fx[i]? = some a) (hj : g.fx[j]? = some b) : a ≠ b := by
  intro e; subst e
  have hn : g.fx.Nodup := (List.nodup_append.1 h).1
  exact hij ((List.getElem?_inj (List.getElem?_eq_some_iff.1 hi).1 hn).1 (hi.trans hj.symm))
theorem SesIs.fx_rest (h : SesIs g st w) {a b : Nat} (ha : a ∈ g.fx) (hb : b ∈ qfp g.q st.qs ++ (st.l.map (·.2) ++ st.o.map (·.2.1))) : a ≠ b := (List.nodup_append.1 h.nd).2.2 a ha b hb
theorem SesIs.fx_q (h : SesIs g st w) {a : Nat} (ha : a ∈ g.fx) : a ∉ qfp g.q st.qs := fun e => h.fx_rest ha (List.mem_append_left _ e) rfl
theorem SesIs.fx_box (h : SesIs g st w) {a : Nat} (ha : a ∈ g.fx) {p : Session × Nat} (hp : p ∈ st.l) : a ≠ p.2 := h.fx_rest ha (List.mem_append_right _ (List.mem_append_left _ (List.mem_map.2 ⟨p, hp, rfl⟩)))
theorem SesIs.fx_in (h : SesIs g st w) {a : Nat} (ha : a ∈ g.fx) {e : Int × Nat × List (Int × Bool)} (he : e ∈ st.o) : a ≠ e.2.1 := h.fx_rest ha (List.mem_append_right _ (List.mem_append_right _ (List.mem_map.2 ⟨e, he, rfl⟩)))
theorem SesIs.fx_t (h : SesIs g st w) {a : Nat} (ha : a ∈ g.fx) : a ≠ 0 := fun e => h.tbn (e ▸ sfp_fx ha)
theorem SesIs.nd2 (h : SesIs g st w) : (qfp g.q st.qs ++ (st.l.map (·.2) ++ st.o.map (·.2.1))).Nodup := (List.nodup_append.1 h.nd).2.1
theorem SesIs.box_q (h : SesIs g st w) {p : Session × Nat} (hp : p ∈ st.l) : p.2 ∉ qfp g.q st.qs := fun e => (List.nodup_append.1 h.nd2).2.2 _ e _ (List.mem_append_left _ (List.mem_map.2 ⟨p, hp, rfl⟩)) rfl
theorem SesIs.in_q (h : SesIs g st w) {e : Int × Nat × List (Int × Bool)} (he : e ∈ st.o) : e.2.1 ∉ qfp g.q st.qs := fun e2 => (List.nodup_append.1 h.nd2).2.2 _ e2 _ (List.mem_append_right _ (List.mem_map.2 ⟨e, he, rfl⟩)) rfl
theorem SesIs.nd3 (h : SesIs g st w) : (st.l.map (·.2) ++ st.o.map (·.2.1)).Nodup := (List.nodup_append.1 h.nd2).2.1
theorem SesIs.box_in (h : SesIs g st w) {p : Session × Nat} (hp : p ∈ st.l) {e : Int × Nat × List (Int × Bool)} (he : e ∈ st.o) : p.2 ≠ e.2.1 := (List.nodup_append.1 h.nd3).2.2 _ (List.mem_map.2 ⟨p, hp, rfl⟩) _ (List.mem_map.2 ⟨e, he, rfl⟩)
theorem SesIs.box_inj (h : SesIs g st w) {p p' : Session × Nat} (hp : p ∈ st.l) (hp' : p' ∈ st.l) (e : p'.2 = p.2) : p' = p := by
  have hn := (List.nodup_append.1 h.nd3).1
  generalize st.l = l at hn hp hp'
  induction l with
  | nil => cases hp
  | cons y l ih =>
    rw [List.map_cons, List.nodup_cons] at hn
    rcases List.mem_cons.1 hp with e1 | e1 <;> rcases List.mem_cons.1 hp' with e2 | e2
    · rw [e1, e2]
    · exact absurd (List.mem_map.2 ⟨p', e2, by rw [e, e1]⟩) hn.1
    · exact absurd (List.mem_map.2 ⟨p, e1, by rw [← e, e2]⟩) hn.1
    · exact ih hn.2 e1 e2
theorem sidl_mem {l : List (Session × Nat)} {p : Session × Nat} (h : p ∈ l) : (p.1.id, p.2) ∈ sidl l := List.mem_map.2 ⟨p, h, rfl⟩
theorem SesIs.ids (h : SesIs g st w) : (st.l.map (·.1.id)).Nodup := by
  have := h.map.nodup
  simpa [sidl, List.map_map, Function.comp_def] using this
theorem SesIs.aget (h : SesIs g st w) {p : Session × Nat} (hp : p ∈ st.l) : aget (sidl st.l) p.1.id = some p.2 := aget_of_mem h.map.nodup (sidl_mem hp)
theorem SesIs.good (h : SesIs g st w) {p : Session × Nat} (hp : p ∈ st.l) : inI p.1.id := h.map.goods _ (sidl_mem hp)
theorem keyM_look (l : List (Session × Nat)) (b : Int) (p : T4) : keyM l (k4 b p) = (lookS l b p).map (·.1.id) := by
  unfold keyM lookS; congr 2; funext q; exact decide_eq_decide.2 k4_inj
theorem lookS_mem {l : List (Session × Nat)} {f : Session × Nat → Bool} {q : Session × Nat} (h : l.find? f = some q) : q ∈ l := List.mem_of_find?_eq_some h
theorem sget_spec (ok : SesOk g) (h : SesIs g st w) (b : Int) (p : T4) : Rets Tryd.prog 73 #[.pointer (some ⟨g.x.ib, 0, none⟩), .string (k4 b p)] w fun v w' => ((lookS st.l b p = none ∧ ∃ u : Int, v = .tuple #[.int .i64 u, .bool false]) ∨ (∃ q, lookS st.l b p = some q ∧ q ∈ st.l ∧ v = .tuple #[.int .i64 q.1.id, .bool true])) ∧ K0 w w' :=
  (get_spec ok.x h.ix (k4 b p)).mono fun v w' ⟨⟨u, h1, h2⟩, k⟩ => ⟨by
    rw [keyM_look] at h1 h2
    cases hq : lookS st.l b p with
    | none => rw [hq] at h1; exact .inl ⟨rfl, u, h1⟩
    | some q => rw [hq] at h1 h2; exact .inr ⟨q, rfl, lookS_mem hq, by rw [h1, h2 q.1.id rfl]; rfl⟩, k⟩
end
theorem snone_spec {g : SesG} {st : SesS} {w : World} (h : SesIs g st w)  : Rets Tryd.prog 61 #[(.pointer (some ⟨g.tb, 0, none⟩))] w fun v w' => v = .bool false ∧ K0 w w' := by
  refine enter Tryd.func61 rfl Tryd.ntmps61 rfl fun Q hret hend E hE => ?_
  have g1 : E 0 = (Vp g.tb 0) := hE 0
  clear hE
  have hb0 := h.blk
  refine seq fun K2 hK2 => ?_
  refine reg ?_
  refine s_y (y_assign (v := Vf) rfl) rfl ?_
  refine s_nil (hK2 _ _ (genC [(0, (Vp g.tb 0))] ⟨g1, trivial⟩ ?_))
  clear hK2; rintro E ⟨g3, -⟩
  refine seq fun K4 hK4 => ?_
  refine reg ?_
  refine s_y (y_move (v := (Vp g.tb 0)) g3) rfl ?_
  refine s_y (y_peq Tryd.underlying53 rfl rfl) rfl ?_
  refine s_y (y_move (v := Vf) rfl) rfl ?_
  refine s_gy (.yes rfl rfl) (y_move (v := (Vp g.tb 0)) g3) rfl ?_
  refine s_gy (.yes rfl rfl) (y_nil rfl) rfl ?_
  refine s_gy (.yes rfl rfl) (y_fld fo115_2 rfl) rfl ?_
  refine s_gy (.yes rfl rfl) (y_load (v := (.map (some g.mb))) rfl (rd_sc sc110 (On.now hb0) rfl)) rfl ?_
  refine s_gy (.yes rfl rfl) (y_meq Tryd.underlying110 rfl rfl) rfl ?_
  refine s_y (y_pick_f rfl (v := Vf) rfl) rfl ?_
  refine s_y (y_assign (v := Vf) rfl) rfl ?_
  refine s_nil (hK4 _ _ (genC [(2, Vf)] ⟨rfl, trivial⟩ ?_))
  clear hK4; rintro E ⟨g5, -⟩
  refine ret (hret _ _ [Vf] ⟨g5, trivial⟩ ?_)
  exact ⟨rfl, (Kp.refl _ _)⟩

theorem skey_spec (p : Int) (t : T4) (w : World) (hp : -9223372036854775808 ≤ p ∧ p ≤ 9223372036854775807) (ht : -9223372036854775808 ≤ t.port ∧ t.port ≤ 9223372036854775807) (hT : Tb w) : Rets Tryd.prog 63 #[(.int .i64 p), (t4 t)] w fun v w' => v = .string (k4 p t) ∧ K0 w w' := by
  refine enter Tryd.func63 rfl Tryd.ntmps63 rfl fun Q hret hend E hE => ?_
  have g1 : E 0 = (Vi p) := hE 0
  have g2 : E 1 = (t4 t) := hE 1
  clear hE
  have hsp9 : (⟨#[32]⟩ : ByteArray).size = 1 := rfl; have hsl9 : (⟨t.addr.l.toArray⟩ : ByteArray).size = 4 := rfl
  refine seq fun K3 hK3 => ?_
  refine reg ?_
  refine s_e (e_box (v := (t4 t)) g2) rfl ?_
  rintro _ w4 ⟨rfl, hb5, hk6⟩
  have ka7 : Kp (fun _ => False) w w4 := (Kp.then0 (Kp.refl _ _) hk6)
  refine s_y (y_assign (v := (.string ({ data := #[] } : ByteArray))) rfl) rfl ?_
  refine s_nil (hK3 _ _ (genC [(0, (Vi p)), (3, (Vp w.heap.size 0))] ⟨g1, rfl, trivial⟩ ?_))
  clear hK3; rintro E ⟨g8, g9, -⟩
  refine seq fun K10 hK10 => ?_
  refine regD (fun _ => False) (.take 0 (.take 3 (.take 4 (.take 8 (.take 9 (.take 10 (.one 1 (.take 2 (.one 5 (.take 6 (.take 7 (.take 11 (.take 12 .done))))))))))))) mixed (by kernel_rfl) fun w11 hh12 hk13 => ?_
  have ka14 := (Kp.then0 ka7 hk13)
  refine o_y rfl (y_move (v := (Vi p)) g8) ?_
  refine o_y rfl (y_fld fo34_1 g9) ?_
  refine o_y rfl (y_load (v := (Vi (t.port))) rfl (rd_sc sc3 (On.kp (hk13.get0 hb5) id) rfl)) ?_
  refine o_y rfl (y_fld fo34_0 g9) ?_
  refine o_y rfl (y_sliceA ao27 sz5 rfl) ?_
  refine o_y rfl (y_strof (l := t.addr.l) Tryd.underlying161 Tryd.underlying9 Tryd.underlying5 rfl rfl (fun w hw => ⟨_, _, _, (On.kp (hk13.get0 hb5) id) w hw, rfl⟩)) ?_
  refine o_one ?_
  have hf15 := ((hT.kp hk6 id).kp hk13 id)
  have hszz16 := itoaB_size (n := p) (by omega)
  refine c_e rfl (e_call ca89 (args := [(Vi p)]) rfl (itoa_spec p _ (by omega) hf15)) ?_
  rintro _ w17 ⟨rfl, hk18⟩
  have ka19 := (Kp.then0 ka14 hk18)
  have ks20 : Kp (fun _ => False) w11 w17 := (Kp.then0 (Kp.refl _ _) hk18)
  refine ⟨ks20, ?_⟩
  refine o_y rfl (y_sadd rfl rfl (by first | omega | (simp only [size_add]; omega))) ?_
  refine o_one ?_
  have hf21 := (hf15.kp hk18 id)
  have hszz22 := itoaB_size (n := t.port) (by omega)
  refine c_e rfl (e_call ca89 (args := [(Vi (t.port))]) rfl (itoa_spec t.port _ (by omega) hf21)) ?_
  rintro _ w23 ⟨rfl, hk24⟩
  have ka25 := (Kp.then0 ka19 hk24)
  have ks26 := (Kp.then0 ks20 hk24)
  refine ⟨ks26, ?_⟩
  refine o_y rfl (y_sadd rfl rfl (by first | omega | (simp only [size_add]; omega))) ?_
  refine o_y rfl (y_sadd rfl rfl (by first | omega | (simp only [size_add]; omega))) ?_
  refine o_y rfl (y_sadd rfl rfl (by first | omega | (simp only [size_add]; omega))) ?_
  refine o_y rfl (y_assign (v := (.string (((((itoaB p) ++ ({ data := #[32] } : ByteArray)) ++ (itoaB t.port)) ++ ({ data := #[32] } : ByteArray)) ++ (⟨t.addr.l.toArray⟩ : ByteArray)))) rfl) ?_
  refine o_done (hK10 _ _ (genC [(4, (.string (((((itoaB p) ++ ({ data := #[32] } : ByteArray)) ++ (itoaB t.port)) ++ ({ data := #[32] } : ByteArray)) ++ (⟨t.addr.l.toArray⟩ : ByteArray))))] ⟨rfl, trivial⟩ ?_))
  clear hK10; rintro E ⟨g27, -⟩
  refine ret (hret _ _ [(.string (((((itoaB p) ++ ({ data := #[32] } : ByteArray)) ++ (itoaB t.port)) ++ ({ data := #[32] } : ByteArray)) ++ (⟨t.addr.l.toArray⟩ : ByteArray)))] ⟨g27, trivial⟩ ?_)
  exact ⟨rfl, ka25⟩

theorem sroom_spec {g : SesG} {st : SesS} {w : World} (ok : SesOk g) (h : SesIs g st w) (b : Int) (t : T4) (hb : -9223372036854775808 ≤ b ∧ b ≤ 9223372036854775807) (ht : -9223372036854775808 ≤ t.port ∧ t.port ≤ 9223372036854775807)  : Rets Tryd.prog 36 #[(.pointer (some ⟨g.tb, 0, none⟩)), (.int .i64 b), (t4 t)] w fun v w' => v = .int .i64 (if (lookS st.l b t).isSome then 5 else if g.max ≤ st.l.length then 6 else 0) ∧ K0 w w' := by
  refine enter Tryd.func36 rfl Tryd.ntmps36 rfl fun Q hret hend E hE => ?_
  have g1 : E 0 = (Vp g.tb 0) := hE 0
  have g2 : E 1 = (Vi b) := hE 1
  have g3 : E 2 = (t4 t) := hE 2
  clear hE
  have hb0 := h.blk; have hm0 := h.map; have hT0 := h.tb; have hx0 := h.ix; have hq0 := h.q; have ho0 := h.omap
  refine seq fun K4 hK4 => ?_
  refine reg ?_
  refine s_e (e_box (v := (t4 t)) g3) rfl ?_
  rintro _ w5 ⟨rfl, hb6, hk7⟩
  have ka8 : Kp (fun _ => False) w w5 := (Kp.then0 (Kp.refl _ _) hk7)
  refine s_y (y_assign (v := (Vi 0)) rfl) rfl ?_
  refine s_nil (hK4 _ _ (genC [(0, (Vp g.tb 0)), (1, (Vi b)), (5, (Vp w.heap.size 0))] ⟨g1, g2, rfl, trivial⟩ ?_))
  clear hK4; rintro E ⟨g9, g10, g11, -⟩
  refine seq fun K12 hK12 => ?_
  refine seq fun K13 hK13 => ?_
  refine reg ?_
  refine s_y (y_move (v := (Vp g.tb 0)) g9) rfl ?_
  have hf14 := (SesIs.k0 h hk7)
  refine s_e (e_call ca61 (args := [(Vp g.tb 0)]) rfl (snone_spec hf14)) rfl ?_
  rintro _ w15 ⟨rfl, hk16⟩
  have ka17 := (Kp.then0 ka8 hk16)
  refine s_nil (hK13 _ _ (genC [(0, (Vp g.tb 0)), (1, (Vi b)), (5, (Vp w.heap.size 0)), (10, Vf)] ⟨g9, g10, g11, rfl, trivial⟩ ?_))
  clear hK13; rintro E ⟨g18, g19, g20, g21, -⟩
  refine cond_f g21 ?_
  refine skip (hK12 _ _ (genC [(0, (Vp g.tb 0)), (1, (Vi b)), (5, (Vp w.heap.size 0))] ⟨g18, g19, g20, trivial⟩ ?_))
  clear hK12; rintro E ⟨g22, g23, g24, -⟩
  refine seq fun K25 hK25 => ?_
  refine seq fun K26 hK26 => ?_
  refine regD (fun _ => False) (.take 0 (.take 1 (.take 2 (.take 3 (.take 4 (.take 5 (.one 6 (.one 7 (.take 8 (.take 9 (.take 10 (.take 11 (.take 12 .done))))))))))))) mixed (by kernel_rfl) fun w27 hh28 hk29 => ?_
  have ka30 := (Kp.then0 ka17 hk29)
  refine o_y rfl (y_move (v := (Vp g.tb 0)) g22) ?_
  refine o_y rfl (y_nil rfl) ?_
  refine o_y rfl (y_fld fo115_3 rfl) ?_
  refine o_y rfl (y_load (v := (Vp g.x.ib 0)) rfl (rd_sc sc88 (On.kp (hk29.get0 (hk16.get0 (hk7.get0 hb0))) id) rfl)) ?_
  refine o_y rfl (y_move (v := (Vi b)) g23) ?_
  refine o_y rfl (y_load (v := (t4 t)) g24 (rd_agg (vs := t.cs) ag34 (On.kp (hk29.get0 (hk16.get0 hb6)) id) (by kernel_rfl) rfl)) ?_
  refine o_one ?_
  have hf31 := (((hT0.kp hk7 id).kp hk16 id).kp hk29 id)
  refine c_e rfl (e_call ca63 (args := [(Vi b), (t4 t)]) rfl (skey_spec b t _ (by omega) (by omega) hf31)) ?_
  rintro _ w32 ⟨rfl, hk33⟩
  have ka34 := (Kp.then0 ka30 hk33)
  have ks35 : Kp (fun _ => False) w27 w32 := (Kp.then0 (Kp.refl _ _) hk33)
  refine ⟨ks35, ?_⟩
  refine o_one ?_
  have hf36 := (SesIs.k0 (SesIs.k0 (SesIs.k0 hf14 hk16) hk29) hk33)
  refine c_e rfl (e_call ca73 (args := [(Vp g.x.ib 0), (.string (k4 b t))]) rfl (sget_spec ok hf36 b t)) ?_
  rintro _ w37 ⟨⟨hq41, u39, rfl⟩ | ⟨q40, hq42, hq43, rfl⟩, hk38⟩
  · have ka44 := (Kp.then0 ka34 hk38)
    have ks45 := (Kp.then0 ks35 hk38)
    refine ⟨ks45, ?_⟩
    refine o_y rfl (y_move (v := (.tuple #[(Vi u39), Vf])) rfl) ?_
    refine o_y rfl (y_ext rfl (v := (Vi u39)) rfl) ?_
    refine o_y rfl (y_ext rfl (v := Vf) rfl) ?_
    refine o_y rfl (y_assign (v := (Vi u39)) rfl) ?_
    refine o_y rfl (y_assign (v := Vf) rfl) ?_
    refine o_done (hK26 _ _ (genC [(0, (Vp g.tb 0)), (8, Vf)] ⟨g22, rfl, trivial⟩ ?_))
    clear hK26; rintro E ⟨g46, g47, -⟩
    refine seq fun K48 hK48 => ?_
    refine reg ?_
    refine s_y (y_move (v := Vf) g47) rfl ?_
    refine s_nil (hK48 _ _ (genC [(0, (Vp g.tb 0)), (22, Vf)] ⟨g46, rfl, trivial⟩ ?_))
    clear hK48; rintro E ⟨g49, g50, -⟩
    refine cond_f g50 ?_
    refine skip (hK25 _ _ (genC [(0, (Vp g.tb 0))] ⟨g49, trivial⟩ ?_))
    clear hK25; rintro E ⟨g51, -⟩
    refine seq fun K52 hK52 => ?_
    refine seq fun K53 hK53 => ?_
    refine regD (fun _ => False) (.take 0 (.take 1 (.take 2 (.take 3 (.take 4 (.take 5 (.take 6 (.take 7 (.take 8 (.take 9 .done)))))))))) mixed (by kernel_rfl) fun w54 hh55 hk56 => ?_
    have ka57 := (Kp.then0 ka44 hk56)
    refine o_y rfl (y_move (v := (Vp g.tb 0)) g51) ?_
    refine o_y rfl (y_nil rfl) ?_
    refine o_y rfl (y_fld fo115_2 rfl) ?_
    refine o_y rfl (y_load (v := (.map (some g.mb))) rfl (rd_sc sc110 (On.kp (hk56.get0 (hk38.get0 (hk33.get0 (hk29.get0 (hk16.get0 (hk7.get0 hb0)))))) id) rfl)) ?_
    refine o_y rfl (y_lenMap Tryd.underlying110 (MapOn.kp ((((((hm0.kp hk7 id).kp hk16 id).kp hk29 id).kp hk33 id).kp hk38 id).kp hk56 id) id) rfl) ?_
    refine o_y rfl (y_move (v := (Vp g.tb 0)) g51) ?_
    refine o_y rfl (y_nil rfl) ?_
    refine o_y rfl (y_fld fo115_0 rfl) ?_
    refine o_y rfl (y_load (v := (Vi (g.max))) rfl (rd_sc sc3 (On.kp (hk56.get0 (hk38.get0 (hk33.get0 (hk29.get0 (hk16.get0 (hk7.get0 hb0)))))) id) rfl)) ?_
    refine o_y rfl (y_geq rfl rfl) ?_
    refine o_done (hK53 _ _ (genC [(32, (.bool (decide ((g.max : Int) ≤ (((sidl st.l).length : Nat) : Int)))))] ⟨rfl, trivial⟩ ?_))
    clear hK53; rintro E ⟨g58, -⟩
    refine cond_d g58 (fun c59 => ?_) (fun c59 => ?_)
    · refine seq fun K60 hK60 => ?_
      refine reg ?_
      refine s_y (y_assign (v := (Vi 6)) rfl) rfl ?_
      refine s_nil (hK60 _ _ (genC [(6, (Vi 6))] ⟨rfl, trivial⟩ ?_))
      clear hK60; rintro E ⟨g61, -⟩
      refine ret (hret _ _ [(Vi 6)] ⟨g61, trivial⟩ ?_)
      refine ⟨?_, ka57⟩
      have hle9 : (sidl st.l).length = st.l.length := List.length_map _
      rw [hq41, if_neg (by simp)]
      rw [if_pos (by omega)]; rfl
    · refine skip (hK52 _ _ (genC [] trivial ?_))
      clear hK52; rintro E -
      refine seq fun K62 hK62 => ?_
      refine reg ?_
      refine s_y (y_assign (v := (Vi 0)) rfl) rfl ?_
      refine s_nil (hK62 _ _ (genC [(6, (Vi 0))] ⟨rfl, trivial⟩ ?_))
      clear hK62; rintro E ⟨g63, -⟩
      refine ret (hret _ _ [(Vi 0)] ⟨g63, trivial⟩ ?_)
      refine ⟨?_, ka57⟩
      have hle9 : (sidl st.l).length = st.l.length := List.length_map _
      rw [hq41, if_neg (by simp)]
      rw [if_neg (by omega)]; rfl
  · have ka64 := (Kp.then0 ka34 hk38)
    have ks65 := (Kp.then0 ks35 hk38)
    refine ⟨ks65, ?_⟩
    refine o_y rfl (y_move (v := (.tuple #[(Vi (q40.1.id)), Vt])) rfl) ?_
    refine o_y rfl (y_ext rfl (v := (Vi (q40.1.id))) rfl) ?_
    refine o_y rfl (y_ext rfl (v := Vt) rfl) ?_
    refine o_y rfl (y_assign (v := (Vi (q40.1.id))) rfl) ?_
    refine o_y rfl (y_assign (v := Vt) rfl) ?_
    refine o_done (hK26 _ _ (genC [(0, (Vp g.tb 0)), (8, Vt)] ⟨g22, rfl, trivial⟩ ?_))
    clear hK26; rintro E ⟨g66, g67, -⟩
    refine seq fun K68 hK68 => ?_
    refine reg ?_
    refine s_y (y_move (v := Vt) g67) rfl ?_
    refine s_nil (hK68 _ _ (genC [(0, (Vp g.tb 0)), (22, Vt)] ⟨g66, rfl, trivial⟩ ?_))
    clear hK68; rintro E ⟨g69, g70, -⟩
    refine cond_t g70 ?_
    refine seq fun K71 hK71 => ?_
    refine reg ?_
    refine s_y (y_assign (v := (Vi 5)) rfl) rfl ?_
    refine s_nil (hK71 _ _ (genC [(6, (Vi 5))] ⟨rfl, trivial⟩ ?_))
    clear hK71; rintro E ⟨g72, -⟩
    refine ret (hret _ _ [(Vi 5)] ⟨g72, trivial⟩ ?_)
    refine ⟨?_, ka64⟩
    rw [hq42]; rfl

theorem sfind_spec {g : SesG} {st : SesS} {w : World} (ok : SesOk g) (h : SesIs g st w) (b : Int) (t : T4) (hb : -9223372036854775808 ≤ b ∧ b ≤ 9223372036854775807) (ht : -9223372036854775808 ≤ t.port ∧ t.port ≤ 9223372036854775807)  : Rets Tryd.prog 35 #[(.pointer (some ⟨g.tb, 0, none⟩)), (.int .i64 b), (t4 t)] w fun v w' => ((lookS st.l b t = none ∧ v = .tuple #[sv zeroS, .bool false]) ∨ (∃ q, lookS st.l b t = some q ∧ q ∈ st.l ∧ v = .tuple #[sv q.1, .bool true])) ∧ K0 w w' := by
  refine enter Tryd.func35 rfl Tryd.ntmps35 rfl fun Q hret hend E hE => ?_
  have g1 : E 0 = (Vp g.tb 0) := hE 0
  have g2 : E 1 = (Vi b) := hE 1
  have g3 : E 2 = (t4 t) := hE 2
  clear hE
  have hb0 := h.blk; have hm0 := h.map; have hT0 := h.tb; have hx0 := h.ix; have hq0 := h.q; have ho0 := h.omap
  refine seq fun K4 hK4 => ?_
  refine reg ?_
  refine s_e (e_box (v := (t4 t)) g3) rfl ?_
  rintro _ w5 ⟨rfl, hb6, hk7⟩
  have ka8 : Kp (fun _ => False) w w5 := (Kp.then0 (Kp.refl _ _) hk7)
  refine s_e (e_alloc ze59) rfl ?_
  rintro _ w9 ⟨rfl, hb10, hk11⟩
  have ka12 := (Kp.then0 ka8 hk11)
  refine s_y (y_assign (v := Vf) rfl) rfl ?_
  refine s_nil (hK4 _ _ (genC [(0, (Vp g.tb 0)), (1, (Vi b)), (5, (Vp w.heap.size 0)), (6, (Vp w5.heap.size 0))] ⟨g1, g2, rfl, rfl, trivial⟩ ?_))
  clear hK4; rintro E ⟨g13, g14, g15, g16, -⟩
  refine seq fun K17 hK17 => ?_
  refine seq fun K18 hK18 => ?_
  refine reg ?_
  refine s_y (y_move (v := (Vp g.tb 0)) g13) rfl ?_
  have hf19 := (SesIs.k0 (SesIs.k0 h hk7) hk11)
  refine s_e (e_call ca61 (args := [(Vp g.tb 0)]) rfl (snone_spec hf19)) rfl ?_
  rintro _ w20 ⟨rfl, hk21⟩
  have ka22 := (Kp.then0 ka12 hk21)
  refine s_nil (hK18 _ _ (genC [(0, (Vp g.tb 0)), (1, (Vi b)), (5, (Vp w.heap.size 0)), (6, (Vp w5.heap.size 0)), (11, Vf)] ⟨g13, g14, g15, g16, rfl, trivial⟩ ?_))
  clear hK18; rintro E ⟨g23, g24, g25, g26, g27, -⟩
  refine cond_f g27 ?_
  refine skip (hK17 _ _ (genC [(0, (Vp g.tb 0)), (1, (Vi b)), (5, (Vp w.heap.size 0)), (6, (Vp w5.heap.size 0))] ⟨g23, g24, g25, g26, trivial⟩ ?_))
  clear hK17; rintro E ⟨g28, g29, g30, g31, -⟩
  refine seq fun K32 hK32 => ?_
  refine regD (fun _ => False) (.take 0 (.take 1 (.take 2 (.take 3 (.take 4 (.take 5 (.one 6 (.one 7 (.take 8 (.take 9 (.take 10 (.take 11 (.take 12 .done))))))))))))) mixed (by kernel_rfl) fun w33 hh34 hk35 => ?_
  have ka36 := (Kp.then0 ka22 hk35)
  refine o_y rfl (y_move (v := (Vp g.tb 0)) g28) ?_
  refine o_y rfl (y_nil rfl) ?_
  refine o_y rfl (y_fld fo115_3 rfl) ?_
  refine o_y rfl (y_load (v := (Vp g.x.ib 0)) rfl (rd_sc sc88 (On.kp (hk35.get0 (hk21.get0 (hk11.get0 (hk7.get0 hb0)))) id) rfl)) ?_
  refine o_y rfl (y_move (v := (Vi b)) g29) ?_
  refine o_y rfl (y_load (v := (t4 t)) g30 (rd_agg (vs := t.cs) ag34 (On.kp (hk35.get0 (hk21.get0 (hk11.get0 hb6))) id) (by kernel_rfl) rfl)) ?_
  refine o_one ?_
  have hf37 := ((((hT0.kp hk7 id).kp hk11 id).kp hk21 id).kp hk35 id)
  refine c_e rfl (e_call ca63 (args := [(Vi b), (t4 t)]) rfl (skey_spec b t _ (by omega) (by omega) hf37)) ?_
  rintro _ w38 ⟨rfl, hk39⟩
  have ka40 := (Kp.then0 ka36 hk39)
  have ks41 : Kp (fun _ => False) w33 w38 := (Kp.then0 (Kp.refl _ _) hk39)
  refine ⟨ks41, ?_⟩
  refine o_one ?_
  have hf42 := (SesIs.k0 (SesIs.k0 (SesIs.k0 hf19 hk21) hk35) hk39)
  refine c_e rfl (e_call ca73 (args := [(Vp g.x.ib 0), (.string (k4 b t))]) rfl (sget_spec ok hf42 b t)) ?_
  rintro _ w43 ⟨⟨hq47, u45, rfl⟩ | ⟨q46, hq48, hq49, rfl⟩, hk44⟩
  · have ka50 := (Kp.then0 ka40 hk44)
    have ks51 := (Kp.then0 ks41 hk44)
    refine ⟨ks51, ?_⟩
    refine o_y rfl (y_move (v := (.tuple #[(Vi u45), Vf])) rfl) ?_
    refine o_y rfl (y_ext rfl (v := (Vi u45)) rfl) ?_
    refine o_y rfl (y_ext rfl (v := Vf) rfl) ?_
    refine o_y rfl (y_assign (v := (Vi u45)) rfl) ?_
    refine o_y rfl (y_assign (v := Vf) rfl) ?_
    refine o_done (hK32 _ _ (genC [(0, (Vp g.tb 0)), (6, (Vp w5.heap.size 0)), (8, (Vi u45)), (9, Vf)] ⟨g28, g31, rfl, rfl, trivial⟩ ?_))
    clear hK32; rintro E ⟨g52, g53, g54, g55, -⟩
    refine seq fun K56 hK56 => ?_
    refine seq fun K57 hK57 => ?_
    refine reg ?_
    refine s_y (y_move (v := Vf) g55) rfl ?_
    refine s_y (y_not rfl) rfl ?_
    refine s_nil (hK57 _ _ (genC [(0, (Vp g.tb 0)), (6, (Vp w5.heap.size 0)), (8, (Vi u45)), (25, Vt)] ⟨g52, g53, g54, rfl, trivial⟩ ?_))
    clear hK57; rintro E ⟨g58, g59, g60, g61, -⟩
    refine cond_t g61 ?_
    refine seq fun K62 hK62 => ?_
    refine reg ?_
    refine s_y (y_build (vs := []) (v := (.agg #[.int .i64 0, .int .i64 0, U0, U0, U0, U0, .int .i64 0, .int .i64 0, .int .i64 0])) rfl (fun _ => by kernel_rfl)) rfl ?_
    have hb63 := (hk44.get0 (hk39.get0 (hk35.get0 (hk21.get0 hb10))))
    refine s_e0 (e_storeV (cs' := #[(Vi 0), (Vi 0), U0, U0, U0, U0, (Vi 0), (Vi 0), (Vi 0)]) [(Vi 0), (Vi 0), U0, U0, U0, U0, (Vi 0), (Vi 0), (Vi 0)] g59 (v := (.agg #[.int .i64 0, .int .i64 0, U0, U0, U0, U0, .int .i64 0, .int .i64 0, .int .i64 0])) rfl rfl sz59 hb63 rfl rfl rfl) ?_
    rintro _ w64 ⟨hb65, hk66⟩
    have ka67 := (Kp.fresh ka50 hk66 fun _ e => nl (nl hk7.size (Nat.le_refl _)) (Nat.le_of_eq e.symm))
    refine s_y (y_assign (v := Vf) rfl) rfl ?_
    refine s_nil (hK62 _ _ (genC [(6, (Vp w5.heap.size 0)), (7, Vf)] ⟨g59, rfl, trivial⟩ ?_))
    clear hK62; rintro E ⟨g68, g69, -⟩
    refine ret (hret _ _ [(sv (⟨0, 0, (⟨(⟨0, 0, 0, 0⟩ : V4), 0⟩ : T4), 0, 0⟩ : Session)), Vf] ⟨⟨_, g68, (rd_agg (vs := [(Vi 0), (Vi 0), U0, U0, U0, U0, (Vi 0), (Vi 0), (Vi 0)]) ag59 (On.now hb65) (by kernel_rfl) rfl)⟩, g69, trivial⟩ ?_)
    exact ⟨.inl ⟨hq47, rfl⟩, ka67⟩
  · have ka70 := (Kp.then0 ka40 hk44)
    have ks71 := (Kp.then0 ks41 hk44)
    have hbxq46 := h.box q46 hq49; have hagq46 := h.aget hq49; have hgdq46 := h.good hq49; unfold inI at hgdq46
    refine ⟨ks71, ?_⟩
    refine o_y rfl (y_move (v := (.tuple #[(Vi (q46.1.id)), Vt])) rfl) ?_
    refine o_y rfl (y_ext rfl (v := (Vi (q46.1.id))) rfl) ?_
    refine o_y rfl (y_ext rfl (v := Vt) rfl) ?_
    refine o_y rfl (y_assign (v := (Vi (q46.1.id))) rfl) ?_
    refine o_y rfl (y_assign (v := Vt) rfl) ?_
    refine o_done (hK32 _ _ (genC [(0, (Vp g.tb 0)), (6, (Vp w5.heap.size 0)), (8, (Vi (q46.1.id))), (9, Vt)] ⟨g28, g31, rfl, rfl, trivial⟩ ?_))
    clear hK32; rintro E ⟨g72, g73, g74, g75, -⟩
    refine seq fun K76 hK76 => ?_
    refine seq fun K77 hK77 => ?_
    refine reg ?_
    refine s_y (y_move (v := Vt) g75) rfl ?_
    refine s_y (y_not rfl) rfl ?_
    refine s_nil (hK77 _ _ (genC [(0, (Vp g.tb 0)), (6, (Vp w5.heap.size 0)), (8, (Vi (q46.1.id))), (25, Vf)] ⟨g72, g73, g74, rfl, trivial⟩ ?_))
    clear hK77; rintro E ⟨g78, g79, g80, g81, -⟩
    refine cond_f g81 ?_
    refine skip (hK76 _ _ (genC [(0, (Vp g.tb 0)), (6, (Vp w5.heap.size 0)), (8, (Vi (q46.1.id)))] ⟨g78, g79, g80, trivial⟩ ?_))
    clear hK76; rintro E ⟨g82, g83, g84, -⟩
    refine seq fun K85 hK85 => ?_
    refine reg ?_
    refine s_y (y_move (v := (Vp g.tb 0)) g82) rfl ?_
    refine s_y (y_nil rfl) rfl ?_
    refine s_y (y_fld fo115_2 rfl) rfl ?_
    have hb86 := (hk44.get0 (hk39.get0 (hk35.get0 (hk21.get0 (hk11.get0 (hk7.get0 hb0))))))
    refine s_y (y_load (v := (.map (some g.mb))) rfl (rd_sc sc110 (On.now hb86) rfl)) rfl ?_
    refine s_y (y_move (v := (Vi (q46.1.id))) g84) rfl ?_
    have hf87 := ((((((hm0.kp hk7 id).kp hk11 id).kp hk21 id).kp hk35 id).kp hk39 id).kp hk44 id)
    refine s_y (y_lookup_some kf3 Tryd.underlying110 ze116 (MapOn.now hf87) rfl rfl (show inI q46.1.id from inI_of (by omega) (by omega)) hagq46) rfl ?_
    refine s_y (y_nil rfl) rfl ?_
    have hb88 := (hk44.get0 (hk39.get0 (hk35.get0 (hk21.get0 (hk11.get0 (hk7.get0 hbxq46))))))
    refine s_y (y_load (v := (sv q46.1)) rfl (rd_agg (vs := q46.1.cs) ag59 (On.now hb88) (by kernel_rfl) rfl)) rfl ?_
    have hb89 := (hk44.get0 (hk39.get0 (hk35.get0 (hk21.get0 hb10))))
    refine s_e0 (e_storeV (cs' := q46.1.cs.toArray) q46.1.cs g83 (v := (sv q46.1)) rfl rfl sz59 hb89 rfl rfl rfl) ?_
    rintro _ w90 ⟨hb91, hk92⟩
    have ka93 := (Kp.fresh ka70 hk92 fun _ e => nl (nl hk7.size (Nat.le_refl _)) (Nat.le_of_eq e.symm))
    refine s_y (y_assign (v := Vt) rfl) rfl ?_
    refine s_nil (hK85 _ _ (genC [(6, (Vp w5.heap.size 0)), (7, Vt)] ⟨g83, rfl, trivial⟩ ?_))
    clear hK85; rintro E ⟨g94, g95, -⟩
    refine ret (hret _ _ [(sv q46.1), Vt] ⟨⟨_, g94, (rd_agg (vs := q46.1.cs) ag59 (On.now hb91) (by kernel_rfl) rfl)⟩, g95, trivial⟩ ?_)
    exact ⟨.inr ⟨q46, hq48, hq49, rfl⟩, ka93⟩

end Go.Proofs.YtdcnblafepgheaaDoor
